/- Part of what the proof needs. -/
import Derived.Test.YtnjkemakcejceaaGreatDoorMFrStoreVersionsUptoF
import Derived.Test.YtnjkemakcejceaaGreatDoorMFrStoreVersionsUptoH
import Derived.Test.YtnjkemakcejceaaGreatDoorMFrStoreVersionsUptoK
import Derived.Test.YtnjkemakcejceaaGreatDoorMFrStoreVersionsUptoN
import Derived.Test.YtnjkemakcejceaaGreatDoorMFrStoreVersionsUptoP
import Derived.Test.YtnjkemakcejceaaGreatDoorMFrStoreVersionsUptoQ
import Derived.Test.YtnjkemakcejceaaGreatDoorRows
set_option linter.unusedSimpArgs false
set_option linter.unusedVariables false
set_option linter.unnecessarySimpa false
namespace Go.Proofs.YtnjkemakcejceaaGreatDoor
namespace Sf
def rd (l : List UInt8) : Rs:=⟨⟨l,0⟩,false⟩
theorem rd_ok (l : List UInt8) : (rd l).fails = false:=rfl
theorem num_enc (n : Int) (l : List UInt8) (h0 : -9223372036854775808 ≤ n) (h1 : n ≤ 9223372036854775807) : numS (rd (Wire.num n ++ l)) = (rd l,n):=by
 unfold numS rd
 rw [Val.numR_enc n l h0 h1]
theorem str_enc (s l : List UInt8) (h : s.length ≤ 9223372036854775807) : strS (rd (Wire.strE s ++ l)) = (rd l,s):=by
 unfold strS rd
 rw [Val.strR_enc s l h]
theorem cnt_enc (n : Nat) (l : List UInt8) (h : n ≤ l.length) (h1 : n ≤ 9223372036854775807) : cntS (rd (Wire.num n ++ l)) = (rd l,n):=by
 unfold cntS rd
 rw [Val.cntR_enc n l h h1]
theorem flag_enc (b : Bool) (l : List UInt8) : flagS (rd (flagE b ++ l)) = (rd l,b):=by
 unfold flagS rd flagE
 cases b
 ·rw [if_neg (by decide),Val.numR_enc 0 l (by decide) (by decide)]; rfl
 ·rw [if_pos rfl,Val.numR_enc 1 l (by decide) (by decide)]; rfl
theorem value_enc (v : V) (l : List UInt8) (h : Val.checkZ v = 0) : valueS (rd (Val.enc v ++ l)) = (rd l,v):=by
 unfold valueS rd
 rw [Val.value_back v l h]
 rfl
theorem words_enc : ∀ (ws acc : List (List UInt8)) (l : List UInt8),(∀ w ∈ ws,w.length ≤ 2000000) → wordsS ws.length (rd (wordsE ws ++ l)) acc = (rd l,acc ++ ws)
 | [],acc,l,h => by simp [wordsS,wordsE]
 | w :: ws,acc,l,h => by
  have e : wordsE (w :: ws) ++ l = Wire.strE w ++ (wordsE ws ++ l):=by simp [wordsE,List.append_assoc]
  show wordsS ws.length (strS (rd (wordsE (w :: ws) ++ l))).1 (acc ++ [(strS (rd (wordsE (w :: ws) ++ l))).2]) = _
  rw [e,str_enc _ _ (by have:=h w List.mem_cons_self; omega)]
  rw [words_enc ws _ l fun x hx => h x (List.mem_cons_of_mem _ hx)]
  simp
theorem strE_pos (s : List UInt8) : 1 ≤ (Wire.strE s).length:=by
 have:=Val.num_len s.length
 unfold Wire.strE
 rw [List.length_append]; omega
theorem flat_len {α : Type} (f : α → List UInt8) (hf : ∀ x,1 ≤ (f x).length) : ∀ l : List α,l.length ≤ (l.flatMap f).length
 | [] => by simp
 | x :: l => by
  have:=hf x
  have:=flat_len f hf l
  rw [List.flatMap_cons,List.length_append,List.length_cons]; omega
def oldI (ver : Int) (x : Inst) : Inst:=if ver = 2 then x else { x with first:=false }
theorem inst_enc (ver : Int) (x : Inst) (l : List UInt8) (hx : AX.Sf.InstIn x) (ht : x.typ.length ≤ 2000000) (hz : instZ x = 0) : instS ver (rd (instE ver x ++ l)) = (rd l,oldI ver x):=by
 obtain ⟨h1,h2,h3⟩:=inst_zero hz
 obtain ⟨ad,dep,id,typ,at',v,ta,fi,ds⟩:=x
 have ha:=hx.a; have hd:=hx.d; have hi:=hx.i; have hn:=hx.n; have hs:=hx.ds
 dsimp only at h1 h2 h3 ha hd hi hn hs ht
 have e : instE ver ⟨ad,dep,id,typ,at',v,ta,fi,ds⟩ ++ l = Wire.strE ad ++ (Wire.strE dep ++ (Wire.strE id ++ (Wire.strE typ ++ (Val.enc at' ++ (Wire.num v ++ (flagE ta ++ ((if ver = 2 then flagE fi else []) ++ (Wire.num ds.length ++ (wordsE ds ++ l))))))))):=by
  unfold instE
  simp only [List.append_assoc]
 have hc : ds.length ≤ (wordsE ds ++ l).length:=by
  have:=flat_len Wire.strE strE_pos ds
  unfold wordsE
  rw [List.length_append]; omega
 rw [e]
 unfold instS
 dsimp only
 rw [str_enc ad _ (by omega)]
 dsimp only
 rw [str_enc dep _ (by omega)]
 dsimp only
 rw [str_enc id _ (by omega)]
 dsimp only
 rw [str_enc typ _ (by omega)]
 dsimp only
 rw [value_enc at' _ h1]
 dsimp only
 rw [num_enc v _ (by omega) (by omega)]
 dsimp only
 rw [flag_enc ta]
 dsimp only
 by_cases hv : ver = 2
 ·subst hv
  simp only [if_true]
  rw [flag_enc fi]
  dsimp only
  rw [cnt_enc _ _ hc (by omega)]
  dsimp only
  rw [words_enc ds [] l hs]
  simp [oldI]
 ·simp only [if_neg hv,List.nil_append]
  rw [cnt_enc _ _ hc (by omega)]
  dsimp only
  rw [words_enc ds [] l hs]
  simp [oldI,hv]
theorem pend_enc (p : Pend) (l : List UInt8) (ha : p.addr.length ≤ 2000000) (ht : p.typ.length ≤ 2000000) (hk : p.tok.length ≤ 2000000) : pendS (rd (pendE p ++ l)) = (rd l,p):=by
 obtain ⟨a,t,k⟩:=p
 dsimp only at ha ht hk
 have e : pendE ⟨a,t,k⟩ ++ l = Wire.strE a ++ (Wire.strE t ++ (Wire.strE k ++ l)):=by unfold pendE; simp only [List.append_assoc]
 rw [e]
 unfold pendS
 dsimp only
 rw [str_enc a _ (by omega)]
 dsimp only
 rw [str_enc t _ (by omega)]
 dsimp only
 rw [str_enc k _ (by omega)]
theorem out_enc (o : Outp) (l : List UInt8) (hn : o.name.length ≤ 2000000) (hz : outZ o = 0) : outS (rd (outE o ++ l)) = (rd l,o):=by
 have h1:=out_zero hz
 obtain ⟨n,v,b⟩:=o
 dsimp only at hn h1
 have e : outE ⟨n,v,b⟩ ++ l = Wire.strE n ++ (Val.enc v ++ (flagE b ++ l)):=by unfold outE; simp only [List.append_assoc]
 rw [e]
 unfold outS
 dsimp only
 rw [str_enc n _ (by omega)]
 dsimp only
 rw [value_enc v _ h1]
 dsimp only
 rw [flag_enc b]
theorem insts_enc (ver : Int) : ∀ (xs acc : List Inst) (l : List UInt8),(∀ x ∈ xs,AX.Sf.InstIn x ∧ x.typ.length ≤ 2000000 ∧ instZ x = 0) → instsS ver xs.length (rd (xs.flatMap (instE ver) ++ l)) acc = (rd l,acc ++ xs.map (oldI ver),true)
 | [],acc,l,h => by simp [instsS]
 | x :: xs,acc,l,h => by
  obtain ⟨h1,h2,h3⟩:=h x List.mem_cons_self
  rw [List.length_cons,List.flatMap_cons,List.append_assoc]
  unfold instsS
  rw [if_neg (by rw [rd_ok]; decide),inst_enc ver x _ h1 h2 h3]
  dsimp only
  rw [insts_enc ver xs _ l fun y hy => h y (List.mem_cons_of_mem _ hy)]
  simp
theorem pends_enc : ∀ (xs acc : List Pend) (l : List UInt8),(∀ x ∈ xs,x.addr.length ≤ 2000000 ∧ x.typ.length ≤ 2000000 ∧ x.tok.length ≤ 2000000) → pendsS xs.length (rd (xs.flatMap pendE ++ l)) acc = (rd l,acc ++ xs)
 | [],acc,l,h => by simp [pendsS]
 | x :: xs,acc,l,h => by
  obtain ⟨h1,h2,h3⟩:=h x List.mem_cons_self
  rw [List.length_cons,List.flatMap_cons,List.append_assoc]
  unfold pendsS
  rw [pend_enc x _ h1 h2 h3]
  dsimp only
  rw [pends_enc xs _ l fun y hy => h y (List.mem_cons_of_mem _ hy)]
  simp
theorem outs_enc : ∀ (xs acc : List Outp) (l : List UInt8),(∀ x ∈ xs,x.name.length ≤ 2000000 ∧ outZ x = 0) → outsS xs.length (rd (xs.flatMap outE ++ l)) acc = (rd l,acc ++ xs,true)
 | [],acc,l,h => by simp [outsS]
 | x :: xs,acc,l,h => by
  obtain ⟨h1,h2⟩:=h x List.mem_cons_self
  rw [List.length_cons,List.flatMap_cons,List.append_assoc]
  unfold outsS
  rw [if_neg (by rw [rd_ok]; decide),out_enc x _ h1 h2]
  dsimp only
  rw [outs_enc xs _ l fun y hy => h y (List.mem_cons_of_mem _ hy)]
  simp
theorem instE_pos (ver : Int) (x : Inst) : 1 ≤ (instE ver x).length:=by
 have:=strE_pos x.addr
 unfold instE
 simp only [List.length_append]; omega
theorem pendE_pos (x : Pend) : 1 ≤ (pendE x).length:=by
 have:=strE_pos x.addr
 unfold pendE
 simp only [List.length_append]; omega
theorem outE_pos (x : Outp) : 1 ≤ (outE x).length:=by
 have:=strE_pos x.name
 unfold outE
 simp only [List.length_append]; omega
structure TypIn (s : St) : Prop where
 insts : ∀ x ∈ s.insts,x.typ.length ≤ 2000000
 pends : ∀ x ∈ s.pends,x.typ.length ≤ 2000000
def oldS (ver : Int) (s : St) : St:=if ver = 2 then s else { s with insts:=s.insts.map (oldI ver),pends:=[] }
theorem oldI_two : oldI 2 = id:=by funext x; simp [oldI]
theorem state_enc (ver : Int) (s : St) (l : List UInt8) (hz : checkZ s = 0) (hin : AX.Sf.StIn s) (ht : TypIn s) : stateS ver (rd (restE ver s ++ l)) = (rd l,oldS ver s):=by
 obtain ⟨h1,h2,h3,h4,h5,h6,h7,h8⟩:=check_parts hz
 obtain ⟨lin,ser,ins,ps,os⟩:=s
 have hl:=hin.lin; have hi:=hin.insts; have hp:=hin.pends; have ho:=hin.outs
 have ti:=ht.insts; have tp:=ht.pends
 dsimp only at h1 h2 h3 h4 h5 h6 h7 h8 hl hi hp ho ti tp
 have e : restE ver ⟨lin,ser,ins,ps,os⟩ ++ l = Wire.strE lin ++ (Wire.num ser ++ (Wire.num ins.length ++ (ins.flatMap (instE ver) ++ ((if ver = 2 then Wire.num ps.length ++ ps.flatMap pendE else []) ++ (Wire.num os.length ++ (os.flatMap outE ++ l)))))):=by
  unfold restE
  simp only [List.append_assoc]
 have li:=flat_len (instE ver) (instE_pos ver) ins
 have lp:=flat_len pendE pendE_pos ps
 have lo:=flat_len outE outE_pos os
 rw [e]
 unfold stateS
 dsimp only
 rw [str_enc lin _ (by omega)]
 dsimp only
 rw [num_enc ser _ (by omega) (by omega)]
 dsimp only
 rw [cnt_enc ins.length _ (by rw [List.length_append]; omega) (by omega)]
 dsimp only
 rw [insts_enc ver ins [] _ fun x hx => ⟨hi x hx,ti x hx,insts_zero _ _ h6 x hx⟩]
 dsimp only
 rw [if_neg (by decide)]
 by_cases hv : ver = 2
 ·subst hv
  simp only [if_true,List.append_assoc]
  rw [cnt_enc ps.length _ (by rw [List.length_append]; omega) (by omega)]
  dsimp only
  rw [pends_enc ps [] _ fun x hx => ⟨(hp x hx).1,tp x hx,(hp x hx).2⟩]
  dsimp only
  rw [cnt_enc os.length _ (by rw [List.length_append]; omega) (by omega)]
  dsimp only
  rw [outs_enc os [] l fun x hx => ⟨(ho x hx).1,outs_zero _ _ h8 x hx⟩]
  simp [oldS,oldI_two]
 ·simp only [if_neg hv,List.nil_append]
  rw [cnt_enc os.length _ (by rw [List.length_append]; omega) (by omega)]
  dsimp only
  have:=outs_enc os [] l fun x hx => ⟨(ho x hx).1,outs_zero _ _ h8 x hx⟩
  rw [this]
  simp [oldS,hv]
theorem instsZ_old (ver : Int) : ∀ (l : List Inst) (p : Option Inst),instsZ (p.map (oldI ver)) (l.map (oldI ver)) = instsZ p l
 | [],p => by cases p <;> rfl
 | x :: l,p => by
  have hx : instZ (oldI ver x) = instZ x:=by unfold oldI; split <;> rfl
  have hb : ∀ y,behind (oldI ver y) (oldI ver x) = behind y x:=fun y => by unfold oldI; split <;> rfl
  have ih:=instsZ_old ver l (some x)
  rw [List.map_cons]
  unfold instsZ
  rw [hx,show instsZ (some (oldI ver x)) (l.map (oldI ver)) = instsZ (some x) l from ih]
  cases p with
  | none => rfl
  | some y => simp only [Option.map_some,hb]
theorem check_old (ver : Int) (s : St) (hz : checkZ s = 0) : checkZ (oldS ver s) = 0:=by
 unfold oldS
 split
 ·exact hz
 ·obtain ⟨lin,ser,ins,ps,os⟩:=s
  obtain ⟨h1,h2,h3,h4,h5,h6,h7,h8⟩:=check_parts hz
  have ht : text lin = true:=by
   cases h : text lin with
   | true => rfl
   | false => unfold checkZ at hz; simp [h] at hz
  dsimp only at h1 h2 h3 h4 h5 h6 h7 h8
  have e:=instsZ_old ver ins none
  rw [h6] at e
  have e' : instsZ none (ins.map (oldI ver)) = 0:=e
  unfold checkZ
  simp only [ht,e',h8,pendsZ,List.length_map,List.length_nil]
  rw [if_neg (by decide),if_neg (by omega),if_neg (by omega)]
  simp
theorem decode_enc (ver : Int) (hv : ver = 1 ∨ ver = 2) (s : St) (hz : checkZ s = 0) (hin : AX.Sf.StIn s) (ht : TypIn s) (hl : (stE ver s).length ≤ 1048572) : encode ver s = (Crc.app (stE ver s),0) ∧ decode (Crc.app (stE ver s)) = (oldS ver s,0):=by
 refine ⟨by unfold encode; rw [if_neg (by simp [hz]),if_neg (by omega)],?_⟩
 have happ : Crc.app (stE ver s) = stE ver s ++ (Crc.app (stE ver s)).drop (stE ver s).length:=by
  unfold Crc.app; simp
 have hlen : (Crc.app (stE ver s)).length = (stE ver s).length + 4:=by
  unfold Crc.app; simp [Crc.four_length]
 have hm : ∀ t : List UInt8,AX.preB (stE ver s ++ t) = true:=fun t => by
  rw [stE_rest]
  unfold AX.preB
  simp [magic,AX.magic]
 have hvb : AX.versionS (stE ver s) = (ver,0):=by
  have h0 : AX.preB (stE ver s) = true:=by have:=hm []; rwa [List.append_nil] at this
  unfold AX.versionS
  rw [h0,if_neg (by decide),stE_rest]
  have hd : (magic ++ Wire.num ver ++ restE ver s).drop 4 = Wire.num ver ++ restE ver s:=by simp [magic]
  rw [hd,Val.numR_enc ver _ (by omega) (by omega)]
  dsimp only
  rw [if_neg (by simp),if_neg (by omega)]
 have hdr : (Wire.numR ⟨(stE ver s).drop 4,0⟩).1 = ⟨restE ver s,0⟩:=by
  rw [stE_rest]
  have hd : (magic ++ Wire.num ver ++ restE ver s).drop 4 = Wire.num ver ++ restE ver s:=by simp [magic]
  rw [hd,Val.numR_enc ver _ (by omega) (by omega)]
 have hst:=state_enc ver s [] hz hin ht
 rw [List.append_nil] at hst
 unfold decode
 rw [if_neg (by omega),if_neg (by rw [happ,hm]; decide),ver_app]
 dsimp only
 rw [if_neg (by simp),hvb]
 dsimp only
 rw [if_neg (by simp),hdr]
 rw [show (⟨⟨restE ver s,0⟩,false⟩ : Rs) = rd (restE ver s) from rfl,hst]
 dsimp only
 rw [if_neg (by simp [rd,Rs.fails,check_old ver s hz])]
end Sf
end Go.Proofs.YtnjkemakcejceaaGreatDoor

namespace Go.Proofs.YtnjkemakcejceaaGreatDoor
open Go.RowKit
namespace AX
namespace Sto
structure Vs (s : Sto) (wr : List Sf.St) : Prop where
 lat : s.latest + 1 = (wr.length : Int)
 pos : 1 ≤ wr.length
 key : Seal.check s.key = 0
 has : ∀ (n : Nat) (h : n < wr.length),∃ b p,lfind (n : Int) s.es = some b ∧ Seal.dec s.key b = (p,0) ∧ Sf.decode p = (wr[n],0) ∧ Sf.checkZ wr[n] = 0
 only : ∀ n b,(n,b) ∈ s.es → b.length ≤ 1048600
theorem Vs.at' {s : Sto} {wr : List Sf.St} (v : Vs s wr) (n : Nat) (h : n < wr.length) : s.at' (n : Int) = (wr[n],0):=by
 obtain ⟨b,p,h1,h2,h3,h4⟩:=v.has n h
 have hp : s.plain (n : Int) = (p,0):=by unfold Sto.plain; rw [h1]; exact h2
 unfold Sto.at'
 rw [hp,if_neg (by simp)]
 dsimp only
 rw [h3,if_pos rfl,h4]
theorem Vs.keyLen {s : Sto} {wr : List Sf.St} (v : Vs s wr) : s.key.length ≤ 1000000000:=by
 have:=v.key
 unfold Seal.check at this
 split at this
 ·cases this
 ·split at this
  ·cases this
  ·omega
theorem Vs.same {s s' : Sto} {wr : List Sf.St} (v : Vs s wr) (h1 : s'.latest = s.latest) (h2 : s'.key = s.key) (h3 : s'.es = s.es) : Vs s' wr:=
 ⟨by rw [h1]; exact v.lat,v.pos,by rw [h2]; exact v.key,by rw [h2,h3]; exact v.has,by rw [h3]; exact v.only⟩
theorem Vs.lock {s : Sto} {wr : List Sf.St} (v : Vs s wr) (who : List UInt8) (n : Int) : Vs (s.lock who n).1 wr:=by
 unfold Sto.lock
 split
 ·exact v
 ·split
  ·exact v
  ·exact v.same rfl rfl rfl
theorem Vs.unlock {s : Sto} {wr : List Sf.St} (v : Vs s wr) (who : List UInt8) : Vs (s.unlock who).1 wr:=by
 unfold Sto.unlock
 split
 ·exact v
 ·exact v.same rfl rfl rfl
theorem Vs.tick {s : Sto} {wr : List Sf.St} (v : Vs s wr) (n : Int) : Vs (s.tick n) wr:=by
 unfold Sto.tick
 split
 ·exact v
 ·repeat' split
  all_goals exact v.same rfl rfl rfl
theorem enc_len1 (k : List UInt8) (n : Int) (p : List UInt8) : (Seal.enc k n p).1.length ≤ 1048600:=by
 unfold Seal.enc
 split
 ·simp
 ·split
  ·simp
  ·show (Crc.app _).length ≤ _
   have hz : ∀ m,(Seal.eight m).length = 8:=Seal.eight_length
   unfold Crc.app Seal.body
   simp only [List.length_append,Crc.four_length,hz,Seal.comb_length,List.length_cons,List.length_nil]
   omega
theorem lfind_erase (m n : Int) (h : m ≠ n) : ∀ es,lfind m (lerase n es) = lfind m es
 | [] => rfl
 | (k,y) :: l => by
  unfold lerase
  split
  ·next e => subst e; simp only [lfind,if_neg h]
  ·unfold lfind
   split
   ·rfl
   ·exact lfind_erase m n h l
theorem keep_vs {s : Sto} {wr : List Sf.St} (st : Sf.St) (hk : Seal.check s.key = 0) (hser : st.ser = (wr.length : Int)) (hwl : wr.length < 60)
  (has : ∀ (n : Nat) (h : n < wr.length),∃ b p,lfind (n : Int) s.es = some b ∧ Seal.dec s.key b = (p,0) ∧ Sf.decode p = (wr[n],0) ∧ Sf.checkZ wr[n] = 0)
  (only : ∀ n b,(n,b) ∈ s.es → b.length ≤ 1048600) (hin : Sf.StIn st) (ht : Sf.TypIn st) (he : (s.keep st).2 = 0) :
  Vs (s.keep st).1 (wr ++ [st]):=by
 unfold Sto.keep at he ⊢
 by_cases h1 : (Sf.encode 2 st).2 = 0
 rotate_left
 ·rw [if_pos h1] at he; exact absurd he h1
 rw [if_neg (by rw [h1]; simp)] at he ⊢
 by_cases h2 : (Seal.enc s.key (IntKind.u64.wrap st.ser) (Sf.encode 2 st).1).2 = 0
 rotate_left
 ·rw [if_pos h2] at he; exact absurd he h2
 rw [if_neg (by rw [h2]; simp)]
 have hz : Sf.checkZ st = 0:=by
  unfold Sf.encode at h1
  split at h1
  ·next h => exact absurd h1 h
  ·next h => simpa using h
 have hl : (Sf.stE 2 st).length ≤ 1048572:=by
  unfold Sf.encode at h1
  rw [if_neg (by rw [hz]; simp)] at h1
  split at h1
  ·cases h1
  ·omega
 obtain ⟨e1,e2⟩:=Sf.decode_enc 2 (.inr rfl) st hz hin ht hl
 rw [show Sf.oldS 2 st = st from if_pos rfl] at e2
 have hp : (Sf.encode 2 st).1.length ≤ 1048576:=Sf.encode_len 2 st
 have e3:=Seal.enc_ok s.key (IntKind.u64.wrap st.ser) (Sf.encode 2 st).1 hk hp
 have e4:=Seal.dec_enc s.key (IntKind.u64.wrap st.ser) (Sf.encode 2 st).1 hk (u64_wrap _) hp
 have hw : IntKind.i64.wrap (st.ser - 64) = st.ser - 64:=by rw [hser]; exact wrap64 (by omega) (by omega)
 have hmem : ∀ n b,(n,b) ∈ lerase (IntKind.i64.wrap (st.ser - 64)) (lput st.ser (Seal.enc s.key (IntKind.u64.wrap st.ser) (Sf.encode 2 st).1).1 s.es) → b.length ≤ 1048600:=by
  intro n b hm
  have : ∀ es,(n,b) ∈ lerase (IntKind.i64.wrap (st.ser - 64)) es → (n,b) ∈ es:=by
   intro es
   induction es with
   | nil => intro h; exact h
   | cons x l ih =>
    intro h
    unfold lerase at h
    split at h
    ·exact List.mem_cons_of_mem _ h
    ·rcases List.mem_cons.1 h with h | h
     ·rw [h]; exact List.mem_cons_self
     ·exact List.mem_cons_of_mem _ (ih h)
  rcases mem_put (this _ hm) with ⟨rfl,rfl⟩ | h
  ·exact enc_len1 _ _ _
  ·exact only n b h
 refine ⟨?_,?_,hk,?_,hmem⟩
 ·show st.ser + 1 = _
  rw [hser,List.length_append]; simp
 ·rw [List.length_append]; simp
 ·intro n h
  rw [hw]
  rw [List.length_append,List.length_singleton] at h
  show ∃ b p,lfind (n : Int) (lerase (st.ser - 64) (lput st.ser _ s.es)) = some b ∧ Seal.dec s.key b = (p,0) ∧ _
  rw [lfind_erase _ _ (by omega)]
  by_cases hn : n < wr.length
  ·rw [lfind_put_ne _ _ _ (by omega),List.getElem_append_left hn]
   exact has n hn
  ·obtain rfl : n = wr.length:=by omega
   rw [hser,lfind_put]
   refine ⟨_,(Sf.encode 2 st).1,rfl,?_,?_,?_⟩
   ·rw [← hser,e3]; exact e4
   ·simp only [List.getElem_concat_length]
    rw [e1]; exact e2
   ·simp only [List.getElem_concat_length]; exact hz
theorem Vs.find {s : Sto} {wr : List Sf.St} (v : Vs s wr) (n : Int) (b : List UInt8) (h : lfind n s.es = some b) : b.length ≤ 1048600:=v.only n b (lfind_mem n b _ h)
theorem Vs.write {s : Sto} {wr : List Sf.St} (v : Vs s wr) (hwl : wr.length < 60) (who : List UInt8) (st : Sf.St) (hin : Sf.StIn st) (ht : Sf.TypIn st) :
  ((s.write who st).2 ≠ 0 ∧ (s.write who st).1 = s) ∨ ((s.write who st).2 = 0 ∧ s.holds who = true ∧ st.lin = s.lin ∧ st.ser = (wr.length : Int) ∧ Vs (s.write who st).1 (wr ++ [st]) ∧ (s.write who st).1.lin = s.lin ∧ (s.write who st).1.own = s.own ∧ (s.write who st).1.left = s.left):=by
 unfold Sto.write
 by_cases h1 : s.holds who = false
 ·rw [if_pos h1]; exact .inl ⟨(by decide : (25 : Int) ≠ 0),rfl⟩
 rw [if_neg h1]
 by_cases h2 : st.lin ≠ s.lin
 ·rw [if_pos h2]; exact .inl ⟨(by decide : (23 : Int) ≠ 0),rfl⟩
 rw [if_neg h2]
 by_cases h3 : st.ser ≠ IntKind.i64.wrap (s.latest + 1)
 ·rw [if_pos h3]; exact .inl ⟨(by decide : (22 : Int) ≠ 0),rfl⟩
 rw [if_neg h3]
 have h4 : st.ser = (wr.length : Int):=by
  have:=Decidable.not_not.1 h3
  rw [this,v.lat]; exact wrap64 (by omega) (by omega)
 by_cases h5 : (s.keep st).2 = 0
 ·refine .inr ⟨h5,by cases h : s.holds who <;> simp_all,Decidable.not_not.1 h2,h4,keep_vs st v.key h4 hwl v.has v.only hin ht h5,?_⟩
  unfold Sto.keep at h5 ⊢
  split at h5
  ·next h => exact absurd h5 h
  ·next h =>
   rw [if_neg h]
   split at h5
   ·next h' => exact absurd h5 h'
   ·next h' => rw [if_neg h']; exact ⟨rfl,rfl,rfl⟩
 ·refine .inl ⟨h5,?_⟩
  unfold Sto.keep at h5 ⊢
  split
  ·rfl
  ·split
   ·rfl
   ·next h h' => rw [if_neg h,if_neg h'] at h5; exact absurd rfl h5
theorem Vs.serials {s : Sto} {wr : List Sf.St} (v : Vs s wr) (hwl : wr.length < 60) : s.serials = (List.range wr.length).map fun i : Nat => (i : Int):=by
 have h:=v.lat
 have hlo : s.lo = 0:=by unfold Sto.lo; rw [if_pos (by omega)]
 unfold Sto.serials Sto.upTo
 rw [hlo,show (s.latest + 1 - 0).toNat = wr.length by omega]
 simp
theorem Vs.rekey {s s' : Sto} {wr : List Sf.St} {q : List UInt8} (v : Vs s wr) (hwl : wr.length < 60) (hq : Seal.check q = 0) (r : s.Rekeyed q s') : Vs s' wr:=by
 have hs:=v.serials hwl
 refine ⟨by rw [r.latest]; exact v.lat,v.pos,by rw [r.key]; exact hq,fun n h => ?_,fun n b hm => ?_⟩
 ·obtain ⟨b,p,h1,h2,h3,h4⟩:=v.has n h
  have hmem : (n : Int) ∈ s.serials:=by rw [hs]; exact List.mem_map.2 ⟨n,List.mem_range.2 h,rfl⟩
  have hg:=r.good n hmem
  have he:=r.es n hmem
  rw [h1] at hg
  simp only [Option.getD_some] at hg
  obtain ⟨p',k1,k2⟩:=Seal.rekey_ok s.key q b (Seal.rekey s.key q b).1 (Prod.ext rfl hg)
  rw [h2] at k1
  injection k1 with k1 _
  subst k1
  refine ⟨_,p,he,?_,h3,h4⟩
  unfold Sto.anew
  rw [r.key,h1]
  exact k2
 ·obtain ⟨_,rfl⟩:=r.only n b hm
  unfold Sto.anew Seal.rekey
  split
  ·simp
  ·exact enc_len1 _ _ _
end Sto
end AX
end Go.Proofs.YtnjkemakcejceaaGreatDoor

namespace Go.Proofs.YtnjkemakcejceaaGreatDoor
open Go.RowKit
set_option maxHeartbeats 4000000
namespace AX
def c_eqPend : AX.AFn:=⟨26,.seq (.reg false [aR 4 (.mv (.c (.bool false)))]) (.seq (.seq (.reg false [aM 6 0,aR 7 (.len false (.t 6)),aM 8 1,aR 9 (.len false (.t 8)),aR 10 (.bin .neq (.t 7) (.t 9))]) (.cond (.t 10) (.seq (.reg false [aR 4 (.mv (.c (.bool false)))]) (.ret)) (.skip))) (.seq (.seq (.reg false [aM 11 0,aR 12 (.len false (.t 11)),aR 13 (.mv (aI 0))]) (.block 0 (.loop (.seq (.reg false [aR 14 (.bin .lss (.t 13) (.t 12))]) (.seq (.cond (.t 14) (.skip) (.exit 0)) (.seq (.block 1 (.seq (.reg false [aM 15 13,aM 5 15]) (.seq (.reg true [aM 16 0,aM 17 5,⟨some 18,.iaddr 3 (.t 16) (.t 17),none,[0,1]⟩,⟨some 19,.load true 3 (.t 18),none,[2]⟩,aM 20 1,aM 21 5,⟨some 22,.iaddr 3 (.t 20) (.t 21),none,[4,5]⟩,⟨some 23,.load true 3 (.t 22),none,[6]⟩,⟨some 24,.eq 2 [1,1,1] true (.t 19) (.t 23),none,[3,7]⟩]) (.cond (.t 24) (.seq (.reg false [aR 4 (.mv (.c (.bool false)))]) (.ret)) (.skip))))) (.reg false [aR 25 (.bin .add (.t 13) (aI 1)),aM 13 25]))))))) (.seq (.reg false [aR 4 (.mv (.c (.bool true)))]) (.ret)))),[.t 4]⟩
theorem h_eqPend : AX.compFn Tryz.prog 55 = some c_eqPend:=by kernel_rfl
def c_eqInst : AX.AFn:=⟨32,.seq (.reg false [aR 6 (.mv (.c (.bool false)))]) (.seq (.seq (.reg false [aM 10 0,aR 11 (.len false (.t 10)),aM 12 1,aR 13 (.len false (.t 12)),aR 14 (.bin .neq (.t 11) (.t 13))]) (.cond (.t 14) (.seq (.reg false [aR 6 (.mv (.c (.bool false)))]) (.ret)) (.skip))) (.seq (.seq (.reg false [aM 15 0,aR 16 (.len false (.t 15)),aR 17 (.mv (aI 0))]) (.block 0 (.loop (.seq (.reg false [aR 18 (.bin .lss (.t 17) (.t 16))]) (.seq (.cond (.t 18) (.skip) (.exit 0)) (.seq (.block 1 (.seq (.reg false [aM 19 17,aR 20 (.iaddr 13 (.t 15) (.t 17)),aR 21 (.load true 13 (.t 20)),aR 8 (.alloc 42 [.str [],.str [],.str [],.str [],.int .i64 0,.int .i64 0,.str [],.sl 0 .nil [],.sl 0 .nil [],.int .i64 0,.bool false,.bool false,.sl 0 .nil []]),aM 7 19,aU (.store 13 (.t 8) (.t 21))]) (.seq (.reg false [aM 22 1,aM 23 7,aR 24 (.iaddr 13 (.t 22) (.t 23)),aR 25 (.load true 13 (.t 24)),aR 9 (.alloc 42 [.str [],.str [],.str [],.str [],.int .i64 0,.int .i64 0,.str [],.sl 0 .nil [],.sl 0 .nil [],.int .i64 0,.bool false,.bool false,.sl 0 .nil []]),aU (.store 13 (.t 9) (.t 25))]) (.seq (.reg false [aM 26 2,aR 27 (.load true 13 (.t 8)),aR 28 (.load true 13 (.t 9)),aR 29 (.callv (.t 26) [.t 27,.t 28]),aR 30 (.un .not (.t 29))]) (.cond (.t 30) (.seq (.reg false [aR 6 (.mv (.c (.bool false)))]) (.ret)) (.skip)))))) (.reg false [aR 31 (.bin .add (.t 17) (aI 1)),aM 17 31]))))))) (.seq (.reg false [aR 6 (.mv (.c (.bool true)))]) (.ret)))),[.t 6]⟩
theorem h_eqInst : AX.compFn Tryz.prog 56 = some c_eqInst:=by kernel_rfl
def c_eqOutp : AX.AFn:=⟨32,.seq (.reg false [aR 6 (.mv (.c (.bool false)))]) (.seq (.seq (.reg false [aM 10 0,aR 11 (.len false (.t 10)),aM 12 1,aR 13 (.len false (.t 12)),aR 14 (.bin .neq (.t 11) (.t 13))]) (.cond (.t 14) (.seq (.reg false [aR 6 (.mv (.c (.bool false)))]) (.ret)) (.skip))) (.seq (.seq (.reg false [aM 15 0,aR 16 (.len false (.t 15)),aR 17 (.mv (aI 0))]) (.block 0 (.loop (.seq (.reg false [aR 18 (.bin .lss (.t 17) (.t 16))]) (.seq (.cond (.t 18) (.skip) (.exit 0)) (.seq (.block 1 (.seq (.reg false [aM 19 17,aR 20 (.iaddr 7 (.t 15) (.t 17)),aR 21 (.load true 7 (.t 20)),aR 8 (.alloc 98 [.str [],.int .i64 0,.int .i64 0,.str [],.sl 0 .nil [],.sl 0 .nil [],.bool false]),aM 7 19,aU (.store 7 (.t 8) (.t 21))]) (.seq (.reg false [aM 22 1,aM 23 7,aR 24 (.iaddr 7 (.t 22) (.t 23)),aR 25 (.load true 7 (.t 24)),aR 9 (.alloc 98 [.str [],.int .i64 0,.int .i64 0,.str [],.sl 0 .nil [],.sl 0 .nil [],.bool false]),aU (.store 7 (.t 9) (.t 25))]) (.seq (.reg false [aM 26 2,aR 27 (.load true 7 (.t 8)),aR 28 (.load true 7 (.t 9)),aR 29 (.callv (.t 26) [.t 27,.t 28]),aR 30 (.un .not (.t 29))]) (.cond (.t 30) (.seq (.reg false [aR 6 (.mv (.c (.bool false)))]) (.ret)) (.skip)))))) (.reg false [aR 31 (.bin .add (.t 17) (aI 1)),aM 17 31]))))))) (.seq (.reg false [aR 6 (.mv (.c (.bool true)))]) (.ret)))),[.t 6]⟩
theorem h_eqOutp : AX.compFn Tryz.prog 58 = some c_eqOutp:=by kernel_rfl
def c_ssame : AX.AFn:=⟨59,.seq (.reg false [aR 2 (.box 42 (.t 0)),aR 3 (.box 42 (.t 1)),aR 4 (.mv (.c (.bool false)))]) (.seq (.reg true [aR 5 (.load true 13 (.t 2)),⟨some 6,.call 41 [.t 5],none,[0]⟩,aR 7 (.load true 13 (.t 3)),⟨some 8,.call 41 [.t 7],none,[2,1]⟩,⟨some 9,.eq 2 [1,1] false (.t 6) (.t 8),none,[1,3]⟩,⟨some 10,.mv (.t 9),none,[4,3]⟩,⟨some 11,.faddr 2 (.t 2),some (10,true),[5]⟩,⟨some 12,.load false 1 (.t 11),some (10,true),[6,5]⟩,⟨some 13,.faddr 2 (.t 3),some (10,true),[5]⟩,⟨some 14,.load false 1 (.t 13),some (10,true),[8,5]⟩,⟨some 15,.bin .eql (.t 12) (.t 14),some (10,true),[7,9,5]⟩,⟨some 16,.pick (.t 10) (.t 15) (.c (.bool false)),none,[5,10]⟩,⟨some 17,.mv (.t 16),none,[11,5]⟩,⟨some 18,.faddr 3 (.t 2),some (17,true),[12]⟩,⟨some 19,.load false 1 (.t 18),some (17,true),[13,12]⟩,⟨some 20,.faddr 3 (.t 3),some (17,true),[12]⟩,⟨some 21,.load false 1 (.t 20),some (17,true),[15,12]⟩,⟨some 22,.bin .eql (.t 19) (.t 21),some (17,true),[14,16,12]⟩,⟨some 23,.pick (.t 17) (.t 22) (.c (.bool false)),none,[12,17]⟩,⟨some 24,.mv (.t 23),none,[18,12]⟩,⟨some 25,.faddr 9 (.t 2),some (24,true),[19]⟩,⟨some 26,.load false 1 (.t 25),some (24,true),[20,19]⟩,⟨some 27,.faddr 9 (.t 3),some (24,true),[19]⟩,⟨some 28,.load false 1 (.t 27),some (24,true),[22,19]⟩,⟨some 29,.bin .eql (.t 26) (.t 28),some (24,true),[21,23,19]⟩,⟨some 30,.pick (.t 24) (.t 29) (.c (.bool false)),none,[19,24]⟩,⟨some 31,.mv (.t 30),none,[25,19]⟩,⟨some 32,.faddr 10 (.t 2),some (31,true),[26]⟩,⟨some 33,.load false 1 (.t 32),some (31,true),[27,26]⟩,⟨some 34,.faddr 10 (.t 3),some (31,true),[26]⟩,⟨some 35,.load false 1 (.t 34),some (31,true),[29,26]⟩,⟨some 36,.eq 0 [] false (.t 33) (.t 35),some (31,true),[28,30,26]⟩,⟨some 37,.pick (.t 31) (.t 36) (.c (.bool false)),none,[26,31]⟩,⟨some 38,.mv (.t 37),none,[32,26]⟩,⟨some 39,.faddr 11 (.t 2),some (38,true),[33]⟩,⟨some 40,.load false 1 (.t 39),some (38,true),[34,33]⟩,⟨some 41,.faddr 11 (.t 3),some (38,true),[33]⟩,⟨some 42,.load false 1 (.t 41),some (38,true),[36,33]⟩,⟨some 43,.eq 0 [] false (.t 40) (.t 42),some (38,true),[35,37,33]⟩,⟨some 44,.pick (.t 38) (.t 43) (.c (.bool false)),none,[33,38]⟩,⟨some 45,.mv (.t 44),none,[39,33]⟩,⟨some 46,.faddr 12 (.t 2),some (45,true),[40]⟩,⟨some 47,.load false 1 (.t 46),some (45,true),[41,40]⟩,⟨some 48,.faddr 12 (.t 3),some (45,true),[40]⟩,⟨some 49,.load false 1 (.t 48),some (45,true),[43,40]⟩,⟨some 50,.call 101 [.t 47,.t 49],some (45,true),[42,44,40,40]⟩,⟨some 51,.pick (.t 45) (.t 50) (.c (.bool false)),none,[40,45]⟩,⟨some 52,.mv (.t 51),none,[46,45]⟩,⟨some 53,.faddr 4 (.t 2),some (52,true),[47]⟩,⟨some 54,.load true 5 (.t 53),some (52,true),[48,47]⟩,⟨some 55,.faddr 4 (.t 3),some (52,true),[47]⟩,⟨some 56,.load true 5 (.t 55),some (52,true),[50,47]⟩,⟨some 57,.call 60 [.t 54,.t 56],some (52,true),[49,51,47,47]⟩,⟨some 58,.pick (.t 52) (.t 57) (.c (.bool false)),none,[47,52]⟩,⟨some 4,.mv (.t 58),none,[53,52,0,1,2,3,4,5,6,7,8,9,10,11,12,13,14,15,16,17,18,19,20,21,22,23,24,25,26,27,28,29,30,31,32,33,34,35,36,37,38,39,40,41,42,43,44,45,46,47,48,49,50,51,52,53]⟩]) (.ret)),[.t 4]⟩
theorem h_ssame : AX.compFn Tryz.prog 57 = some c_ssame:=by kernel_rfl
def c_seq1 : AX.AFn:=⟨24,.seq (.reg false [aR 2 (.box 98 (.t 0)),aR 3 (.box 98 (.t 1)),aR 4 (.mv (.c (.bool false)))]) (.seq (.reg false [aR 5 (.faddr 0 (.t 2)),aR 6 (.load false 1 (.t 5)),aR 7 (.faddr 0 (.t 3)),aR 8 (.load false 1 (.t 7)),aR 9 (.bin .eql (.t 6) (.t 8)),aM 10 9,aG 11 (.faddr 6 (.t 2)) 10 true,aG 12 (.load false 1 (.t 11)) 10 true,aG 13 (.faddr 6 (.t 3)) 10 true,aG 14 (.load false 1 (.t 13)) 10 true,aG 15 (.eq 0 [] false (.t 12) (.t 14)) 10 true,aR 16 (.pick (.t 10) (.t 15) (.c (.bool false))),aM 17 16,aG 18 (.faddr 1 (.t 2)) 17 true,aG 19 (.load true 5 (.t 18)) 17 true,aG 20 (.faddr 1 (.t 3)) 17 true,aG 21 (.load true 5 (.t 20)) 17 true,aG 22 (.call 60 [.t 19,.t 21]) 17 true,aR 23 (.pick (.t 17) (.t 22) (.c (.bool false))),aM 4 23]) (.ret)),[.t 4]⟩
theorem h_seq1 : AX.compFn Tryz.prog 59 = some c_seq1:=by kernel_rfl
def c_sEqual : AX.AFn:=⟨38,.seq (.reg false [aR 2 (.box 26 (.t 0)),aR 3 (.box 26 (.t 1)),aR 4 (.mv (.c (.bool false)))]) (.seq (.reg false [aR 5 (.faddr 0 (.t 2)),aR 6 (.load false 1 (.t 5)),aR 7 (.faddr 0 (.t 3)),aR 8 (.load false 1 (.t 7)),aR 9 (.bin .eql (.t 6) (.t 8)),aM 10 9,aG 11 (.faddr 1 (.t 2)) 10 true,aG 12 (.load false 1 (.t 11)) 10 true,aG 13 (.faddr 1 (.t 3)) 10 true,aG 14 (.load false 1 (.t 13)) 10 true,aG 15 (.bin .eql (.t 12) (.t 14)) 10 true,aR 16 (.pick (.t 10) (.t 15) (.c (.bool false))),aM 17 16,aG 18 (.faddr 3 (.t 2)) 17 true,aG 19 (.load false 1 (.t 18)) 17 true,aG 20 (.faddr 3 (.t 3)) 17 true,aG 21 (.load false 1 (.t 20)) 17 true,aG 22 (.call 55 [.t 19,.t 21]) 17 true,aR 23 (.pick (.t 17) (.t 22) (.c (.bool false))),aM 24 23,aG 25 (.faddr 2 (.t 2)) 24 true,aG 26 (.load false 1 (.t 25)) 24 true,aG 27 (.faddr 2 (.t 3)) 24 true,aG 28 (.load false 1 (.t 27)) 24 true,aG 29 (.call 56 [.t 26,.t 28,.c (.fn 57 [])]) 24 true,aR 30 (.pick (.t 24) (.t 29) (.c (.bool false))),aM 31 30,aG 32 (.faddr 4 (.t 2)) 31 true,aG 33 (.load false 1 (.t 32)) 31 true,aG 34 (.faddr 4 (.t 3)) 31 true,aG 35 (.load false 1 (.t 34)) 31 true,aG 36 (.call 58 [.t 33,.t 35,.c (.fn 59 [])]) 31 true,aR 37 (.pick (.t 31) (.t 36) (.c (.bool false))),aM 4 37]) (.ret)),[.t 4]⟩
theorem h_sEqual : AX.compFn Tryz.prog 13 = some c_sEqual:=by kernel_rfl
def c_r31Small : AX.AFn:=⟨71,.seq (.reg false [aR 3 (.box 26 (.t 0)),aR 6 (.mv (.c (.bool false)))]) (.seq (.seq (.reg false [aR 9 (.faddr 2 (.t 3)),aR 10 (.load false 1 (.t 9)),aR 11 (.len false (.t 10)),aM 12 1,aR 13 (.bin .gtr (.t 11) (.t 12)),aM 14 13,aG 15 (.faddr 3 (.t 3)) 14 false,aG 16 (.load false 1 (.t 15)) 14 false,aG 17 (.len false (.t 16)) 14 false,aG 18 (.mv (.t 1)) 14 false,aG 19 (.bin .gtr (.t 17) (.t 18)) 14 false,aR 20 (.pick (.t 14) (.c (.bool true)) (.t 19)),aM 21 20,aG 22 (.faddr 4 (.t 3)) 21 false,aG 23 (.load false 1 (.t 22)) 21 false,aG 24 (.len false (.t 23)) 21 false,aG 25 (.mv (.t 1)) 21 false,aG 26 (.bin .gtr (.t 24) (.t 25)) 21 false,aR 27 (.pick (.t 21) (.c (.bool true)) (.t 26))]) (.cond (.t 27) (.seq (.reg false [aR 6 (.mv (.c (.bool false)))]) (.ret)) (.skip))) (.seq (.seq (.reg false [aR 7 (.mv (aI 0))]) (.block 0 (.loop (.seq (.seq (.reg false [aM 28 7,aR 29 (.faddr 2 (.t 3)),aR 30 (.load false 1 (.t 29)),aR 31 (.len false (.t 30)),aR 32 (.bin .lss (.t 28) (.t 31))]) (.cond (.t 32) (.skip) (.exit 0))) (.seq (.block 1 (.seq (.reg false [aR 35 (.faddr 2 (.t 3)),aR 36 (.load false 1 (.t 35)),aM 37 7,aR 38 (.iaddr 13 (.t 36) (.t 37)),aR 39 (.faddr 4 (.t 38)),aR 40 (.load true 5 (.t 39)),aM 41 2,aR 42 (.call 73 [.t 40,.t 41]),aR 43 (.un .not (.t 42)),aM 44 43,aG 45 (.faddr 2 (.t 3)) 44 false,aG 46 (.load false 1 (.t 45)) 44 false,aG 47 (.mv (.t 7)) 44 false,aG 48 (.iaddr 13 (.t 46) (.t 47)) 44 false,aG 49 (.faddr 12 (.t 48)) 44 false,aG 50 (.load false 1 (.t 49)) 44 false,aG 51 (.len false (.t 50)) 44 false,aG 52 (.mv (.t 1)) 44 false,aG 53 (.bin .gtr (.t 51) (.t 52)) 44 false,aR 54 (.pick (.t 44) (.c (.bool true)) (.t 53))]) (.cond (.t 54) (.seq (.reg false [aR 6 (.mv (.c (.bool false)))]) (.ret)) (.skip)))) (.reg false [aM 33 7,aR 34 (.bin .add (.t 33) (aI 1)),aM 7 34])))))) (.seq (.seq (.reg false [aR 8 (.mv (aI 0))]) (.block 2 (.loop (.seq (.seq (.reg false [aM 55 8,aR 56 (.faddr 4 (.t 3)),aR 57 (.load false 1 (.t 56)),aR 58 (.len false (.t 57)),aR 59 (.bin .lss (.t 55) (.t 58))]) (.cond (.t 59) (.skip) (.exit 2))) (.seq (.block 3 (.seq (.reg false [aR 62 (.faddr 4 (.t 3)),aR 63 (.load false 1 (.t 62)),aM 64 8,aR 65 (.iaddr 7 (.t 63) (.t 64)),aR 66 (.faddr 1 (.t 65)),aR 67 (.load true 5 (.t 66)),aM 68 2,aR 69 (.call 73 [.t 67,.t 68]),aR 70 (.un .not (.t 69))]) (.cond (.t 70) (.seq (.reg false [aR 6 (.mv (.c (.bool false)))]) (.ret)) (.skip)))) (.reg false [aM 60 8,aR 61 (.bin .add (.t 60) (aI 1)),aM 8 61])))))) (.seq (.reg false [aR 6 (.mv (.c (.bool true)))]) (.ret))))),[.t 6]⟩
theorem h_r31Small : AX.compFn Tryz.prog 38 = some c_r31Small:=by kernel_rfl
theorem eqB_refl_ : ∀ v : V,Val.eqB v v = true:=by
 refine V.induct fun k n s is ks ih => ?_
 rw [Val.eqB]
 have : Val.eqBs is is = true:=by
  have key : ∀ l : List V,(∀ x ∈ l,Val.eqB x x = true) → Val.eqBs l l = true:=by
   intro l
   induction l with
   | nil => intro _; rw [Val.eqBs]
   | cons x l ihl =>
    intro hl
    rw [Val.eqBs,hl x (by simp),ihl fun y hy => hl y (by simp [hy])]
    rfl
  exact key is ih
 simp [this]
theorem a_eqPend (l : List Sf.Pend) (hl : l.length ≤ 1000000000) (h : Hp) : ACall Tryz.prog GT 55 [.sl 3 .no (l.map Sf.Pend.cells),.sl 3 .no (l.map Sf.Pend.cells)] h fun r h' => r = .bool true ∧ h' = h:=by
 refine pcall ?_ rfl (by simp [A.pure,A.data,Sf.Pend.cells]) h
 refine acall_of mixedT h_eqPend (by simp [c_eqPend]) ?_
 dsimp only [c_eqPend]
 have lm : (l.map Sf.Pend.cells).length = l.length:=List.length_map _
 have e0 : ((l.length : Int) != (l.length : Int)) = false:=by simp
 refine run0 (ai lm e0) ?_
 refine awp_loop (fun m ts hh => hh = ⟨[],[]⟩ ∧ ∃ (i : Nat),m = l.length - i ∧ i ≤ l.length ∧ ts 0 = .sl 3 .no (l.map Sf.Pend.cells) ∧ ts 1 = .sl 3 .no (l.map Sf.Pend.cells) ∧ ts 12 = .int .i64 (l.length : Nat) ∧ ts 13 = .int .i64 (i : Nat)) l.length ?_ ?_
 ·exact ⟨rfl,0,rfl,Nat.zero_le _,by (exact ev0 ti),by (exact ev0 ti),by (exact ev0 lm),by (exact inv0 ti)⟩
 ·rintro m ts hh ⟨rfl,i,rfl,hi,t0,t1,t12,t13⟩
  by_cases hlt : i < l.length
  ·have hlt2 : (i : Int) < (l.length : Int):=by omega
   have hla : (i : Int) < ((l.map Sf.Pend.cells).length : Int):=by rw [lm]; omega
   have hj0 : (0 : Int) ≤ (i : Int):=by omega
   have ei : IntKind.i64.wrap ((i : Int) + 1) = ((i + 1 : Nat) : Int):=by rw [wrap64 (by omega) (by omega)]; omega
   have hg:=map_getD Sf.Pend.cells l i hlt
   obtain ⟨x,hx⟩ : ∃ x,l[i] = x:=⟨_,rfl⟩
   rw [hx] at hg
   simp only [Sf.Pend.cells] at hg
   have eq : ∀ a b c : List UInt8,eqCells [1,1,1] [.str a,.str b,.str c] [.str a,.str b,.str c] = some true:=fun a b c => by simp [eqCells]
   refine run0 (ai t0 (ai t1 (ai t12 (ai t13 (ai hlt2 (ai hla (ai hj0 (ai hg (ai ei eq))))))))) ?_
   exact ⟨l.length - (i + 1),by omega,rfl,i + 1,rfl,by omega,by (exact ev0 t0),by (exact ev0 t1),by (exact ev0 t12),by (exact ev0 ei)⟩
  ·have hlt2 : ¬ (i : Int) < (l.length : Int):=by omega
   refine run0 (ai t0 (ai t1 (ai t12 (ai t13 hlt2)))) ?_
   exact ⟨_,le_refl _,rfl⟩
theorem a_same (x : Sf.Inst) (hx : Sf.InstIn x) (h : Hp) : ACall Tryz.prog GT 57 [.agg x.cells,.agg x.cells] h fun r h' => r = .bool true ∧ h' = h:=by
 have hv:=a_vEqual x.attrs x.attrs hx.l hx.l
 rw [eqB_refl_] at hv
 have hs:=a_seqs x.deps x.deps (by have:=hx.n; omega) (by have:=hx.n; omega)
 rw [show (x.deps == x.deps) = true from beq_self_eq_true _] at hs
 have hp:=fun h => a_placeOf x h
 obtain ⟨a,d,id,ty,⟨k,n,w,vi,vy⟩,v,tn,fi,ds⟩:=x
 simp only [V.A,V.cells,Sf.Inst.cells] at hv hs hp ⊢
 refine pcall ?_ rfl (by simp [A.pure,A.data]) h
 refine acall_of mixedT h_ssame (by simp [c_ssame]) ?_
 dsimp only [c_ssame]
 have eq : ∀ a b : List UInt8,eqCells [1,1] [.str a,.str b] [.str a,.str b] = some true:=fun a b => by simp [eqCells]
 refine run0 eq ?_
 refine use (hp _) ?_
 refine run0 eq ?_
 refine use (hp _) ?_
 refine run0 eq ?_
 refine use (hs _) ?_
 refine run0 eq ?_
 refine use (hv _) ?_
 refine run0 eq ?_
 exact ⟨_,le_refl _,rfl⟩
theorem a_eqInst (l : List Sf.Inst) (hl : l.length ≤ 1000000000) (hx : ∀ x ∈ l,∀ h,ACall Tryz.prog GT 57 [.agg x.cells,.agg x.cells] h fun r h' => r = .bool true ∧ h' = h) (h : Hp) : ACall Tryz.prog GT 56 [.sl 13 .no (l.map Sf.Inst.cells),.sl 13 .no (l.map Sf.Inst.cells),.fn 57 []] h fun r h' => r = .bool true ∧ h' = h:=by
 refine pcall ?_ rfl (by simp [A.pure,A.data]) h
 refine acall_of mixedT h_eqInst (by simp [c_eqInst]) ?_
 dsimp only [c_eqInst]
 have lm : (l.map Sf.Inst.cells).length = l.length:=List.length_map _
 have e0 : ((l.length : Int) != (l.length : Int)) = false:=by simp
 refine run0 (ai lm e0) ?_
 refine awp_loop (fun m ts hh => ∃ (i : Nat),m = l.length - i ∧ i ≤ l.length ∧ hh.t = [] ∧ ts 0 = .sl 13 .no (l.map Sf.Inst.cells) ∧ ts 1 = .sl 13 .no (l.map Sf.Inst.cells) ∧ ts 2 = .fn 57 [] ∧ ts 15 = .sl 13 .no (l.map Sf.Inst.cells) ∧ ts 16 = .int .i64 (l.length : Nat) ∧ ts 17 = .int .i64 (i : Nat)) l.length ?_ ?_
 ·exact ⟨0,rfl,Nat.zero_le _,rfl,by (exact ev0 ti),by (exact ev0 ti),by (exact ev0 ti),by (exact ev0 ti),by (exact ev0 lm),by (exact inv0 ti)⟩
 ·rintro m ts ⟨hb,ht⟩ ⟨i,rfl,hi,e,t0,t1,t2,t15,t16,t17⟩
  dsimp only at e
  subst e
  by_cases hlt : i < l.length
  ·have hlt2 : (i : Int) < (l.length : Int):=by omega
   have hla : (i : Int) < ((l.map Sf.Inst.cells).length : Int):=by rw [lm]; omega
   have hj0 : (0 : Int) ≤ (i : Int):=by omega
   have ei : IntKind.i64.wrap ((i : Int) + 1) = ((i + 1 : Nat) : Int):=by rw [wrap64 (by omega) (by omega)]; omega
   have hg:=map_getD Sf.Inst.cells l i hlt
   have hc:=hx _ (List.getElem_mem hlt)
   obtain ⟨x,hxx⟩ : ∃ x,l[i] = x:=⟨_,rfl⟩
   rw [hxx] at hg hc
   obtain ⟨a,d,id,ty,⟨k,n,w,vi,vy⟩,v,tn,fi,ds⟩:=x
   simp only [Sf.Inst.cells] at hg hc
   refine run0 (ai t0 (ai t1 (ai t2 (ai t15 (ai t16 (ai t17 (ai hlt2 (ai hla (ai hj0 (ai hg (ai ei (ai @set_new (ai @len_a1 (ai @get_b2 (ai @get_a2 @set_b2))))))))))))))) ?_
   refine use (hc _) ?_
   refine run0 (ai t0 (ai t1 (ai t2 (ai t15 (ai t16 (ai t17 ei)))))) ?_
   exact ⟨l.length - (i + 1),by omega,i + 1,rfl,by omega,rfl,by (exact ev0 t0),by (exact ev0 t1),by (exact ev0 t2),by (exact ev0 t15),by (exact ev0 t16),by (exact ev0 ei)⟩
  ·have hlt2 : ¬ (i : Int) < (l.length : Int):=by omega
   refine run0 (ai t0 (ai t1 (ai t2 (ai t15 (ai t16 (ai t17 hlt2)))))) ?_
   exact ⟨_,le_refl _,rfl⟩
theorem a_seq1 (x : Sf.Outp) (hl : x.value.lens) (h : Hp) : ACall Tryz.prog GT 59 [.agg x.cells,.agg x.cells] h fun r h' => r = .bool true ∧ h' = h:=by
 have hv:=a_vEqual x.value x.value hl hl
 rw [eqB_refl_] at hv
 obtain ⟨m,⟨k,n,w,vi,vy⟩,b⟩:=x
 simp only [V.A,V.cells,Sf.Outp.cells] at hv ⊢
 refine pcall ?_ rfl (by simp [A.pure,A.data]) h
 refine acall_of mixedT h_seq1 (by simp [c_seq1]) ?_
 dsimp only [c_seq1]
 refine run0 ti ?_
 refine use (hv _) ?_
 refine run0 ti ?_
 exact ⟨_,le_refl _,rfl⟩
theorem a_eqOutp (l : List Sf.Outp) (hl : l.length ≤ 1000000000) (hx : ∀ x ∈ l,∀ h,ACall Tryz.prog GT 59 [.agg x.cells,.agg x.cells] h fun r h' => r = .bool true ∧ h' = h) (h : Hp) : ACall Tryz.prog GT 58 [.sl 7 .no (l.map Sf.Outp.cells),.sl 7 .no (l.map Sf.Outp.cells),.fn 59 []] h fun r h' => r = .bool true ∧ h' = h:=by
 refine pcall ?_ rfl (by simp [A.pure,A.data]) h
 refine acall_of mixedT h_eqOutp (by simp [c_eqOutp]) ?_
 dsimp only [c_eqOutp]
 have lm : (l.map Sf.Outp.cells).length = l.length:=List.length_map _
 have e0 : ((l.length : Int) != (l.length : Int)) = false:=by simp
 refine run0 (ai lm e0) ?_
 refine awp_loop (fun m ts hh => ∃ (i : Nat),m = l.length - i ∧ i ≤ l.length ∧ hh.t = [] ∧ ts 0 = .sl 7 .no (l.map Sf.Outp.cells) ∧ ts 1 = .sl 7 .no (l.map Sf.Outp.cells) ∧ ts 2 = .fn 59 [] ∧ ts 15 = .sl 7 .no (l.map Sf.Outp.cells) ∧ ts 16 = .int .i64 (l.length : Nat) ∧ ts 17 = .int .i64 (i : Nat)) l.length ?_ ?_
 ·exact ⟨0,rfl,Nat.zero_le _,rfl,by (exact ev0 ti),by (exact ev0 ti),by (exact ev0 ti),by (exact ev0 ti),by (exact ev0 lm),by (exact inv0 ti)⟩
 ·rintro m ts ⟨hb,ht⟩ ⟨i,rfl,hi,e,t0,t1,t2,t15,t16,t17⟩
  dsimp only at e
  subst e
  by_cases hlt : i < l.length
  ·have hlt2 : (i : Int) < (l.length : Int):=by omega
   have hla : (i : Int) < ((l.map Sf.Outp.cells).length : Int):=by rw [lm]; omega
   have hj0 : (0 : Int) ≤ (i : Int):=by omega
   have ei : IntKind.i64.wrap ((i : Int) + 1) = ((i + 1 : Nat) : Int):=by rw [wrap64 (by omega) (by omega)]; omega
   have hg:=map_getD Sf.Outp.cells l i hlt
   have hc:=hx _ (List.getElem_mem hlt)
   obtain ⟨x,hxx⟩ : ∃ x,l[i] = x:=⟨_,rfl⟩
   rw [hxx] at hg hc
   obtain ⟨q,⟨k,n,w,vi,vy⟩,b⟩:=x
   simp only [Sf.Outp.cells] at hg hc
   refine run0 (ai t0 (ai t1 (ai t2 (ai t15 (ai t16 (ai t17 (ai hlt2 (ai hla (ai hj0 (ai hg (ai ei (ai @set_new (ai @len_a1 (ai @get_b2 (ai @get_a2 @set_b2))))))))))))))) ?_
   refine use (hc _) ?_
   refine run0 (ai t0 (ai t1 (ai t2 (ai t15 (ai t16 (ai t17 ei)))))) ?_
   exact ⟨l.length - (i + 1),by omega,i + 1,rfl,by omega,rfl,by (exact ev0 t0),by (exact ev0 t1),by (exact ev0 t2),by (exact ev0 t15),by (exact ev0 t16),by (exact ev0 ei)⟩
  ·have hlt2 : ¬ (i : Int) < (l.length : Int):=by omega
   refine run0 (ai t0 (ai t1 (ai t2 (ai t15 (ai t16 (ai t17 hlt2)))))) ?_
   exact ⟨_,le_refl _,rfl⟩
theorem a_stEqual (st : Sf.St) (hin : Sf.StIn st) (h : Hp) : ACall Tryz.prog GT 13 [st.A,st.A] h fun r h' => r = .bool true ∧ h' = h:=by
 have h1:=a_eqPend st.pends hin.lp
 have h2:=a_eqInst st.insts hin.li fun x hx => a_same x (hin.insts x hx)
 have h3:=a_eqOutp st.outs hin.lo fun x hx => a_seq1 x (hin.outs x hx).2
 obtain ⟨lin,ser,ins,ps,os⟩:=st
 simp only [Sf.St.A]
 dsimp only at h1 h2 h3
 refine pcall ?_ rfl (by simp [A.pure,A.data]) h
 refine acall_of mixedT h_sEqual (by simp [c_sEqual]) ?_
 dsimp only [c_sEqual]
 refine run0 ti ?_
 refine use (h1 _) ?_
 refine run0 ti ?_
 refine use (h2 _) ?_
 refine run0 ti ?_
 refine use (h3 _) ?_
 refine run0 ti ?_
 exact ⟨_,le_refl _,rfl⟩
namespace Sf
def smallV (v : V) (nd : Nat) : Bool:=decide (0 ≤ Val.left v nd 40) && decide (IntKind.i64.wrap (Val.keysN v) ≤ 2 * (nd : Int))
def smallI (parts : Int) (nd : Nat) (x : Sf.Inst) : Bool:=smallV x.attrs nd && !decide ((x.deps.length : Int) > parts)
def smallP (parts : Int) (nd : Nat) (s : Sf.St) : Bool:=
 !(decide ((s.insts.length : Int) > parts) || decide ((s.pends.length : Int) > parts) || decide ((s.outs.length : Int) > parts)) && (s.insts.all (smallI parts nd) && s.outs.all fun o => smallV o.value nd)
end Sf
theorem all_drop {α : Type} (p : α → Bool) (l : List α) (i : Nat) (h : i < l.length) : (l.drop i).all p = (p l[i] && (l.drop (i + 1)).all p):=by
 rw [List.drop_eq_getElem_cons h,List.all_cons]
theorem a_r31Small (st : Sf.St) (hin : Sf.StIn st) (parts : Int) (nd : Nat) (hp : 0 ≤ parts) (hp2 : parts ≤ 1000000) (hn : nd ≤ 1000000) (h : Hp) : ACall Tryz.prog GT 38 [st.A,.int .i64 parts,.int .i64 (nd : Int)] h fun r h' => r = .bool (Sf.smallP parts nd st) ∧ h' = h:=by
 refine pcall ?_ rfl (by simp [A.pure,A.data,Sf.St.A]) h
 refine acall_of mixedT h_r31Small (by simp [c_r31Small]) ?_
 dsimp only [c_r31Small]
 have hli:=hin.li
 have hlo:=hin.lo
 have hci:=fun x (hx : x ∈ st.insts) => a_rSmall x.attrs nd hn (hin.insts x hx).l
 have hdi:=fun x (hx : x ∈ st.insts) => (hin.insts x hx).n
 have hco:=fun x (hx : x ∈ st.outs) => a_rSmall x.value nd hn (hin.outs x hx).2
 obtain ⟨lin,ser,ins,ps,os⟩:=st
 simp only [Sf.St.A]
 dsimp only at hli hlo hci hdi hco
 have lm1 : (ins.map Sf.Inst.cells).length = ins.length:=List.length_map _
 have lm2 : (ps.map Sf.Pend.cells).length = ps.length:=List.length_map _
 have lm3 : (os.map Sf.Outp.cells).length = os.length:=List.length_map _
 obtain ⟨q,hq⟩ : ∃ q,Sf.smallP parts nd ⟨lin,ser,ins,ps,os⟩ = q:=⟨_,rfl⟩
 rw [hq]
 unfold Sf.smallP at hq
 dsimp only at hq
 by_cases g1 : (ins.length : Int) > parts
 ·have : false = q:=by rw [← hq]; simp [g1]
  subst this
  refine run0 (ai lm1 (ai lm2 (ai lm3 g1))) ?_
  exact ⟨_,le_refl _,rfl⟩
 by_cases g2 : (ps.length : Int) > parts
 ·have : false = q:=by rw [← hq]; simp [g2]
  subst this
  refine run0 (ai lm1 (ai lm2 (ai lm3 (ai g1 g2)))) ?_
  exact ⟨_,le_refl _,rfl⟩
 by_cases g3 : (os.length : Int) > parts
 ·have : false = q:=by rw [← hq]; simp [g3]
  subst this
  refine run0 (ai lm1 (ai lm2 (ai lm3 (ai g1 (ai g2 g3))))) ?_
  exact ⟨_,le_refl _,rfl⟩
 have hq' : (ins.all (Sf.smallI parts nd) && os.all fun o => Sf.smallV o.value nd) = q:=by rw [← hq]; simp [g1,g2,g3]
 refine run0 (ai lm1 (ai lm2 (ai lm3 (ai g1 (ai g2 g3))))) ?_
 refine awp_loop (fun m ts hh => hh = ⟨[.cells 26 [.str lin,.int .i64 ser,.sl 13 .no (ins.map Sf.Inst.cells),.sl 3 .no (ps.map Sf.Pend.cells),.sl 7 .no (os.map Sf.Outp.cells)]],[]⟩ ∧ ∃ (i : Nat),m = ins.length - i ∧ i ≤ ins.length ∧ (ins.drop i).all (Sf.smallI parts nd) = ins.all (Sf.smallI parts nd) ∧ ts 1 = .int .i64 parts ∧ ts 2 = .int .i64 (nd : Int) ∧ ts 3 = .ptr 0 0 ∧ ts 7 = .int .i64 (i : Nat)) ins.length ?_ ?_
 ·exact ⟨rfl,0,rfl,Nat.zero_le _,rfl,by (exact ev0 ti),by (exact ev0 ti),by (exact ev0 ti),by (exact inv0 ti)⟩
 ·rintro m ts hh ⟨rfl,i,rfl,hi,heq,t1,t2,t3,t7⟩
  by_cases hlt : i < ins.length
  ·have hlt2 : (i : Int) < (ins.length : Int):=by omega
   have hla : (i : Int) < ((ins.map Sf.Inst.cells).length : Int):=by rw [lm1]; omega
   have hj0 : (0 : Int) ≤ (i : Int):=by omega
   have ei : IntKind.i64.wrap ((i : Int) + 1) = ((i + 1 : Nat) : Int):=by rw [wrap64 (by omega) (by omega)]; omega
   have hg:=map_getD Sf.Inst.cells ins i hlt
   have hc:=hci _ (List.getElem_mem hlt)
   rw [all_drop _ _ _ hlt] at heq
   obtain ⟨x,hxx⟩ : ∃ x,ins[i] = x:=⟨_,rfl⟩
   rw [hxx] at hg hc heq
   obtain ⟨a,d,id,ty,⟨k,n,w,vi,vy⟩,v,tn,fi,ds⟩:=x
   simp only [Sf.Inst.cells] at hg
   obtain ⟨b,hb⟩ : ∃ b,Sf.smallV (.mk k n w vi vy) nd = b:=⟨_,rfl⟩
   have hb' : (decide (0 ≤ Val.left (.mk k n w vi vy) nd 40) && decide (IntKind.i64.wrap (Val.keysN (.mk k n w vi vy)) ≤ 2 * (nd : Int))) = b:=hb
   dsimp only at hc
   rw [hb'] at hc
   have hsx : Sf.smallI parts nd ⟨a,d,id,ty,⟨k,n,w,vi,vy⟩,v,tn,fi,ds⟩ = (Sf.smallV (.mk k n w vi vy) nd && !decide ((ds.length : Int) > parts)):=rfl
   rw [hsx,hb] at heq
   have ld : (strsA ds).length = ds.length:=strsA_length ds
   simp only [V.A,V.cells] at hc
   refine run0 (ai t1 (ai t2 (ai t3 (ai t7 (ai lm1 (ai hlt2 (ai hla (ai hj0 hg)))))))) ?_
   refine use (hc _) ?_
   cases b
   ·refine run0 (ai t1 (ai t2 (ai t3 t7))) ?_
    exact ⟨_,le_refl _,by rw [tupA_1,← hq',show ins.all (Sf.smallI parts nd) = false from heq.symm]; rfl⟩
   ·by_cases gd : (ds.length : Int) > parts
    ·refine run0 (ai t1 (ai t2 (ai t3 (ai t7 (ai lm1 (ai hlt2 (ai hla (ai hj0 (ai hg (ai ld gd)))))))))) ?_
     exact ⟨_,le_refl _,by rw [tupA_1,← hq',show ins.all (Sf.smallI parts nd) = false from heq.symm.trans (by simp [gd])]; rfl⟩
    ·have hn : (true && !decide ((ds.length : Int) > parts)) = true:=by simp [gd]
     rw [hn,Bool.true_and] at heq
     refine run0 (ai t1 (ai t2 (ai t3 (ai t7 (ai lm1 (ai hlt2 (ai hla (ai hj0 (ai hg (ai ld (ai gd ei))))))))))) ?_
     exact ⟨ins.length - (i + 1),by omega,rfl,i + 1,rfl,by omega,heq,by (exact ev0 t1),by (exact ev0 t2),by (exact ev0 t3),by (exact ev0 ei)⟩
  ·have hlt2 : ¬ (i : Int) < (ins.length : Int):=by omega
   rw [List.drop_of_length_le (by omega),List.all_nil] at heq
   rw [← heq,Bool.true_and] at hq'
   refine run0 (ai t1 (ai t2 (ai t3 (ai t7 (ai lm1 hlt2))))) ?_
   refine awp_loop (fun m ts hh => hh = ⟨[.cells 26 [.str lin,.int .i64 ser,.sl 13 .no (ins.map Sf.Inst.cells),.sl 3 .no (ps.map Sf.Pend.cells),.sl 7 .no (os.map Sf.Outp.cells)]],[]⟩ ∧ ∃ (i : Nat),m = os.length - i ∧ i ≤ os.length ∧ ((os.drop i).all fun o => Sf.smallV o.value nd) = (os.all fun o => Sf.smallV o.value nd) ∧ ts 2 = .int .i64 (nd : Int) ∧ ts 3 = .ptr 0 0 ∧ ts 8 = .int .i64 (i : Nat)) os.length ?_ ?_
   ·exact ⟨rfl,0,rfl,Nat.zero_le _,rfl,by (exact ev0 t2),by (exact ev0 t3),by (exact inv0 ti)⟩
   ·rintro m ts hh ⟨rfl,i,rfl,hi,heq,t2,t3,t8⟩
    by_cases hlt : i < os.length
    ·have hlt2 : (i : Int) < (os.length : Int):=by omega
     have hla : (i : Int) < ((os.map Sf.Outp.cells).length : Int):=by rw [lm3]; omega
     have hj0 : (0 : Int) ≤ (i : Int):=by omega
     have ei : IntKind.i64.wrap ((i : Int) + 1) = ((i + 1 : Nat) : Int):=by rw [wrap64 (by omega) (by omega)]; omega
     have hg:=map_getD Sf.Outp.cells os i hlt
     have hc:=hco _ (List.getElem_mem hlt)
     rw [all_drop _ _ _ hlt] at heq
     obtain ⟨x,hxx⟩ : ∃ x,os[i] = x:=⟨_,rfl⟩
     rw [hxx] at hg hc heq
     obtain ⟨a,⟨k,n,w,vi,vy⟩,sn⟩:=x
     simp only [Sf.Outp.cells] at hg
     obtain ⟨b,hb⟩ : ∃ b,Sf.smallV (.mk k n w vi vy) nd = b:=⟨_,rfl⟩
     have hb' : (decide (0 ≤ Val.left (.mk k n w vi vy) nd 40) && decide (IntKind.i64.wrap (Val.keysN (.mk k n w vi vy)) ≤ 2 * (nd : Int))) = b:=hb
     dsimp only at hc heq
     rw [hb'] at hc
     rw [hb] at heq
     simp only [V.A,V.cells] at hc
     refine run0 (ai t2 (ai t3 (ai t8 (ai lm3 (ai hlt2 (ai hla (ai hj0 hg))))))) ?_
     refine use (hc _) ?_
     cases b
     ·refine run0 (ai t2 (ai t3 t8)) ?_
      exact ⟨_,le_refl _,by rw [tupA_1,← hq',← heq]; rfl⟩
     ·rw [Bool.true_and] at heq
      refine run0 (ai t2 (ai t3 (ai t8 ei))) ?_
      exact ⟨os.length - (i + 1),by omega,rfl,i + 1,rfl,by omega,heq,by (exact ev0 t2),by (exact ev0 t3),by (exact ev0 ei)⟩
    ·have hlt2 : ¬ (i : Int) < (os.length : Int):=by omega
     rw [List.drop_of_length_le (by omega),List.all_nil] at heq
     refine run0 (ai t2 (ai t3 (ai t8 (ai lm3 hlt2)))) ?_
     exact ⟨_,le_refl _,by rw [tupA_1,← hq',← heq]⟩
end AX
end Go.Proofs.YtnjkemakcejceaaGreatDoor

namespace Go.Proofs.YtnjkemakcejceaaGreatDoor
open Go.RowKit
set_option maxHeartbeats 4000000
namespace AX
namespace Sto
def stX (n : Int) : Sf.St:=⟨[120],n,[],[],[]⟩
def w0 : Sto:=(Sto.new [107] [120]).keep (stX 0) |>.1
def w1 : Sto:=(w0.lock [97] 5).1
def w2 : Sto:=(w1.write [97] (stX 1)).1
def w3 : Sto:=w2.tick 2
end Sto
open Sto in
theorem stX_in (n : Int) : Sf.StIn (stX n):=⟨by show [_].length ≤ _; simp,by simp [stX],by simp [stX],by simp [stX],by simp [stX],by simp [stX],by simp [stX]⟩
open Sto in
theorem stX_le (n : Int) (who : List UInt8) : leL2 [.ptr 1 0,.str who,.agg [.str [120],.int .i64 n,.sl 0 .nil [],.sl 0 .nil [],.sl 0 .nil []]] [.ptr 1 0,.str who,(stX n).A]:=
 ⟨rfl,rfl,⟨le1_refl _,le1_refl _,⟨rfl,.inr rfl,.inl rfl⟩,⟨rfl,.inr rfl,.inl rfl⟩,⟨rfl,.inr rfl,.inl rfl⟩,trivial⟩,trivial⟩
def c_awake34 : AX.AFn:=⟨80,.seq (.reg false [aR 0 (.mv (.c (.bool false)))]) (.seq (.reg false [aR 12 (.call 16 [.c (.str [107]),.c (.str [120])]),aM 11 12,aR 13 (.extract (.t 11) 0),aR 14 (.extract (.t 11) 1),aM 1 13,aM 2 14]) (.seq (.seq (.reg false [aM 15 2,aR 16 (.bin .neq (.t 15) (aI 0)),aM 17 16,aG 18 (.mv (.t 1)) 17 false,aG 19 (.eq 1 [] false (.t 18) (.c (.nilp))) 17 false,aR 20 (.pick (.t 17) (.c (.bool true)) (.t 19))]) (.cond (.t 20) (.seq (.reg false [aR 0 (.mv (.c (.bool false)))]) (.ret)) (.skip))) (.seq (.reg false [aM 21 1,aR 22 (.build [.str [],.int .i64 0,.sl 0 .nil [],.sl 0 .nil [],.sl 0 .nil []] [(0,1,.c (.str [120])),(1,1,aI 1)]),aR 23 (.call 28 [.t 21,.c (.str [97]),.t 22]),aM 3 23]) (.seq (.reg false [aM 24 1,aR 25 (.call 18 [.t 24,.c (.str [97]),aI 5]),aM 4 25]) (.seq (.reg false [aM 26 1,aR 27 (.call 18 [.t 26,.c (.str [98]),aI 5]),aM 5 27]) (.seq (.reg false [aM 28 1,aR 29 (.build [.str [],.int .i64 0,.sl 0 .nil [],.sl 0 .nil [],.sl 0 .nil []] [(0,1,.c (.str [120])),(1,1,aI 1)]),aR 30 (.call 28 [.t 28,.c (.str [97]),.t 29]),aM 6 30]) (.seq (.reg false [aM 31 1,aR 32 (.call 24 [.t 31,aI 2])]) (.seq (.reg false [aM 34 1,aR 35 (.call 35 [.t 34]),aM 33 35,aR 36 (.extract (.t 33) 0),aR 37 (.extract (.t 33) 1),aM 7 36,aM 8 37]) (.seq (.reg false [aM 39 1,aR 40 (.call 36 [.t 39]),aM 38 40,aR 41 (.extract (.t 38) 0),aR 42 (.extract (.t 38) 1),aR 9 (.alloc 26 [.str [],.int .i64 0,.sl 0 .nil [],.sl 0 .nil [],.sl 0 .nil []]),aU (.store 5 (.t 9) (.t 41)),aM 10 42]) (.seq (.reg false [aM 43 3,aR 44 (.bin .eql (.t 43) (aI 25)),aM 45 44,aG 46 (.mv (.t 4)) 45 true,aG 47 (.bin .eql (.t 46) (aI 0)) 45 true,aR 48 (.pick (.t 45) (.t 47) (.c (.bool false))),aM 49 48,aG 50 (.mv (.t 5)) 49 true,aG 51 (.bin .eql (.t 50) (aI 24)) 49 true,aR 52 (.pick (.t 49) (.t 51) (.c (.bool false))),aM 53 52,aG 54 (.mv (.t 6)) 53 true,aG 55 (.bin .eql (.t 54) (aI 0)) 53 true,aR 56 (.pick (.t 53) (.t 55) (.c (.bool false))),aM 57 56,aG 58 (.mv (.t 7)) 57 true,aG 59 (.bin .eql (.t 58) (.c (.str [97]))) 57 true,aR 60 (.pick (.t 57) (.t 59) (.c (.bool false))),aM 61 60,aG 62 (.mv (.t 8)) 61 true,aG 63 (.bin .eql (.t 62) (aI 3)) 61 true,aR 64 (.pick (.t 61) (.t 63) (.c (.bool false))),aM 65 64,aG 66 (.mv (.t 10)) 65 true,aG 67 (.bin .eql (.t 66) (aI 0)) 65 true,aR 68 (.pick (.t 65) (.t 67) (.c (.bool false))),aM 69 68,aG 70 (.faddr 1 (.t 9)) 69 true,aG 71 (.load false 1 (.t 70)) 69 true,aG 72 (.bin .eql (.t 71) (aI 1)) 69 true,aR 73 (.pick (.t 69) (.t 72) (.c (.bool false))),aM 74 73,aG 75 (.mv (.t 1)) 74 true,aG 76 (.call 37 [.t 75]) 74 true,aG 77 (.len false (.t 76)) 74 true,aG 78 (.bin .eql (.t 77) (aI 2)) 74 true,aR 79 (.pick (.t 74) (.t 78) (.c (.bool false))),aM 0 79]) (.ret))))))))))),[.t 0]⟩
theorem h_awake34 : AX.compFn Tryz.prog 15 = some c_awake34:=by kernel_rfl
def Awake34 : Prop:=∀ h,ACall Tryz.prog GT 15 [] h fun r h' => r = .bool true ∧ h' = h
open Sto in
theorem new0 : ACall Tryz.prog GT 16 [.str [107],.str [120]] ⟨[],[]⟩ fun r h' => r = .tup [.ptr 1 0,.int .i64 0] ∧ h' = ⟨[w0.M,w0.B],[]⟩:=
 a_new [107] [120] (by decide) (by decide) (by decide +kernel) (by decide +kernel) (by decide +kernel) (by decide +kernel)
open Sto in
theorem awake34 : Awake34:=by
 intro h
 refine pcall ?_ rfl (by simp [A.pure,A.data]) h
 refine acall_of mixedT h_awake34 (by simp [c_awake34]) ?_
 dsimp only [c_awake34]
 have k0 : w0.key.length ≤ 1000000000:=by decide +kernel
 have k1 : w1.key.length ≤ 1000000000:=by decide +kernel
 have k3 : w3.key.length ≤ 1000000000:=by decide +kernel
 have hl : (Sf.encode 2 (stX 1)).1.length ≤ 1000000:=by decide +kernel
 have hE : (Sf.stE 2 (stX 1)).length + 20 ≤ 1000000000:=by decide +kernel
 have c1:=fun l t => a_swrite w0 l t [97] (stX 1) (stX_in 1) k0 hE
 have e1 : w0.write [97] (stX 1) = (w0,25):=by unfold Sto.write; rw [if_pos (by decide +kernel)]
 have c2:=fun l t => a_lock w0 l t [97] (by decide) 5
 have e2 : (w0.lock [97] 5).2 = 0:=by decide +kernel
 have e2' : (w0.lock [97] 5).1 = w1:=rfl
 have c3:=fun l t => a_lock w1 l t [98] (by decide) 5
 have e3 : w1.lock [98] 5 = (w1,24):=by unfold Sto.lock; rw [if_neg (by decide +kernel),if_pos (by decide +kernel)]
 have c4:=fun l t => a_swrite w1 l t [97] (stX 1) (stX_in 1) k1 hE
 have e4 : (w1.write [97] (stX 1)).2 = 0:=by decide +kernel
 have e4' : (w1.write [97] (stX 1)).1 = w2:=rfl
 have c5:=fun l t => a_tick w2 l t 2 (by decide +kernel) (by decide +kernel)
 have e5 : w2.tick 2 = w3:=rfl
 have c6:=fun l t => a_holder w3 l t
 have e6 : w3.own = [97]:=by decide +kernel
 have e6' : w3.left = 3:=by decide +kernel
 have c7:=fun l t => a_read w3 l t k3 (fun b hb => by
  have h : ((lfind w3.latest w3.es).all fun b => decide (b.length ≤ 1048600)) = true:=by decide +kernel
  rw [hb] at h
  simpa using h)
 have e7 : (w3.at' w3.latest).2 = 0:=by decide +kernel
 have e7' : (w3.at' w3.latest).1.ser = 1:=by decide +kernel
 have c8:=fun l t => a_serials w3 l t (by decide +kernel) (by decide +kernel)
 have e8 : (rowsI w3.serials).length = 2:=by
  have : (rowsI w3.serials).length = w3.serials.length:=by simp [rowsI]
  rw [this]; decide +kernel
 rw [e1] at c1
 rw [e2,e2'] at c2
 rw [e3] at c3
 rw [e4,e4'] at c4
 rw [e5] at c5
 rw [e6,e6'] at c6
 rw [e7] at c7
 obtain ⟨⟨lin,ser,ins,ps,os⟩,hst⟩ : ∃ st,(w3.at' w3.latest).1 = st:=⟨_,rfl⟩
 rw [hst] at c7 e7'
 dsimp only at c1 c3 e7'
 subst e7'
 unfold Sf.St.A at c7
 dsimp only at c7
 have c1':=fun l t => ACall.args (stX_le 1 [97]) (c1 l t)
 have c4':=fun l t => ACall.args (stX_le 1 [97]) (c4 l t)
 refine run0 ti ?_
 refine use new0 ?_
 refine run0 ti ?_
 refine use (c1' _ _) ?_
 refine run0 ti ?_
 refine use (c2 _ _) ?_
 refine run0 ti ?_
 refine use (c3 _ _) ?_
 refine run0 ti ?_
 refine use (c4' _ _) ?_
 refine run0 ti ?_
 refine use (c5 _ _) ?_
 refine run0 ti ?_
 refine use (c6 _ _) ?_
 refine run0 ti ?_
 refine use (c7 _ _) ?_
 refine run0 ti ?_
 refine use (c8 _ _) ?_
 refine run0 e8 ?_
 exact ⟨_,le_refl _,rfl⟩
end AX
end Go.Proofs.YtnjkemakcejceaaGreatDoor

namespace Go.Proofs.YtnjkemakcejceaaGreatDoor
open Go.RowKit
set_option maxHeartbeats 4000000
namespace AX
namespace Sto
def newK (key lin : List UInt8) : Sto × Int:=(Sto.new key lin).keep ⟨lin,0,[],[],[]⟩
def newE (key lin : List UInt8) : Int:=if Seal.check key ≠ 0 then Seal.check key else if txt lin = false then 1 else (newK key lin).2
def newH (key lin : List UInt8) : List Blk:=if Seal.check key ≠ 0 then [] else if txt lin = false then [] else [(newK key lin).1.M,(newK key lin).1.B]
def brk (s : Sto) : Sto:=if s.own = [] then s else { s with own:=[],left:=0 }
theorem Vs.brk {s : Sto} {wr : List Sf.St} (v : Vs s wr) : Vs s.brk wr:=by
 unfold Sto.brk
 split
 ·exact v
 ·exact v.same rfl rfl rfl
end Sto
theorem a_newE (key lin : List UInt8) (hk : key.length ≤ 1000000000) (hl : lin.length ≤ 900000) (hE : (Sf.stE 2 ⟨lin,0,[],[],[]⟩).length + 20 ≤ 1000000000) :
  ACall Tryz.prog GT 16 [.str key,.str lin] ⟨[],[]⟩ fun r h' => r = .tup [if Sto.newE key lin = 0 then .ptr 1 0 else .nilp,.int .i64 (Sto.newE key lin)] ∧ h' = ⟨Sto.newH key lin,[]⟩:=by
 have hc':=fun h => a_sealCheck key hk h
 have ht':=fun h => a_sttext lin (by omega) h
 have hE' : Sto.newE key lin = if Seal.check key ≠ 0 then Seal.check key else if Sto.txt lin = false then 1 else ((Sto.new key lin).keep ⟨lin,0,[],[],[]⟩).2:=rfl
 have hH' : Sto.newH key lin = if Seal.check key ≠ 0 then [] else if Sto.txt lin = false then [] else [((Sto.new key lin).keep ⟨lin,0,[],[],[]⟩).1.M,((Sto.new key lin).keep ⟨lin,0,[],[],[]⟩).1.B]:=rfl
 by_cases z1 : Seal.check key = 0
 rotate_left
 ·rw [if_pos z1] at hE' hH'
  rw [hE',hH',if_neg z1]
  obtain ⟨Z,hZ⟩ : ∃ Z,Seal.check key = Z:=⟨_,rfl⟩
  rw [hZ] at hc' z1 ⊢
  have e1 : (Z != 0) = true:=by simp [z1]
  refine acall_of mixedT h_snew (by simp [c_snew]) ?_
  dsimp only [c_snew]
  refine run0 ti ?_
  refine use (hc' _) ?_
  refine run0 e1 ?_
  exact ⟨_,le_refl _,rfl,rfl⟩
 rw [if_neg (by simp [z1])] at hE' hH'
 rw [z1] at hc'
 by_cases z2 : Sto.txt lin = false
 ·rw [if_pos z2] at hE' hH'
  rw [hE',hH',if_neg (by decide)]
  rw [z2] at ht'
  refine acall_of mixedT h_snew (by simp [c_snew]) ?_
  dsimp only [c_snew]
  refine run0 ti ?_
  refine use (hc' _) ?_
  refine run0 ti ?_
  refine use (ht' _) ?_
  refine run0 ti ?_
  exact ⟨_,le_refl _,rfl,rfl⟩
 rw [if_neg z2] at hE' hH'
 rw [hE',hH']
 have z2' : Sto.txt lin = true:=by cases h : Sto.txt lin <;> simp_all
 by_cases z3 : ((Sto.new key lin).keep ⟨lin,0,[],[],[]⟩).2 = 0
 ·rw [if_pos z3,z3]
  exact a_new key lin hk hl hE z1 z2' z3
 rw [if_neg z3]
 rw [z2'] at ht'
 refine acall_of mixedT h_snew (by simp [c_snew]) ?_
 dsimp only [c_snew]
 have hkp:=a_keep (Sto.new key lin) [] [] ⟨lin,0,[],[],[]⟩ (new_len lin hl) hk hE
 obtain ⟨⟨s2,e⟩,hq⟩ : ∃ q,(Sto.new key lin).keep ⟨lin,0,[],[],[]⟩ = q:=⟨_,rfl⟩
 rw [hq] at hkp z3 ⊢
 dsimp only at hkp z3 ⊢
 have e1 : (e != 0) = true:=by simp [z3]
 have hkp' : ACall Tryz.prog GT 63 [.ptr 1 0,.agg [.str lin,.int .i64 0,.sl 0 .nil [],.sl 0 .nil [],.sl 0 .nil []]] ⟨[(Sto.new key lin).M,(Sto.new key lin).B],[]⟩ (fun r h' => r = .int .i64 e ∧ h' = ⟨[s2.M,s2.B],[]⟩):=by
  refine ACall.args ?_ hkp
  exact ⟨rfl,⟨le1_refl _,le1_refl _,⟨rfl,.inr rfl,.inl rfl⟩,⟨rfl,.inr rfl,.inl rfl⟩,⟨rfl,.inr rfl,.inl rfl⟩,trivial⟩,trivial⟩
 have hM : (Sto.new key lin).M = .map [] 0:=rfl
 have hB : (Sto.new key lin).B = .cells 79 [.str key,.str lin,.int .i64 0,.mp 0,.str [],.int .i64 0]:=rfl
 rw [hM,hB] at hkp'
 refine run0 ti ?_
 refine use (hc' _) ?_
 refine run0 ti ?_
 refine use (ht' _) ?_
 refine run0 ti ?_
 refine use hkp' ?_
 refine run0 e1 ?_
 exact ⟨_,le_refl _,rfl,rfl⟩
theorem a_break (s : Sto) (l : List Blk) (t : List (TypeId × Nat × Nat)) : ACall Tryz.prog GT 23 [.ptr 1 0] ⟨s.M :: s.B :: l,t⟩ fun r h' => r = .bool (s.own != []) ∧ h' = ⟨s.brk.M :: s.brk.B :: l,t⟩:=by
 refine liftS (s':=s.brk) ?_ rfl rfl l t
 have hm:=a_made s
 have hu:=a_unlock s (who:=s.own)
 obtain ⟨key,lin,lat,es,c,own,left⟩:=s
 unfold Sto.unlock Sto.holds at hu
 unfold Sto.brk
 dsimp only at hu ⊢
 refine acall_of mixedT h_sbreak (by simp [c_sbreak]) ?_
 dsimp only [c_sbreak]
 by_cases ho : own = []
 ·subst ho
  rw [if_pos (by decide)] at hu
  rw [if_pos rfl]
  unfold Sto.B Sto.M at hm hu ⊢
  dsimp only at hm hu ⊢
  refine run0 ti ?_
  refine use (hm _ _) ?_
  refine run0 ti ?_
  refine use (hu _ _) ?_
  refine run0 ti ?_
  exact ⟨_,le_refl _,rfl,rfl,rfl⟩
 ·have e1 : (own != []) = true:=by simp [ho]
  rw [if_neg (by rw [e1]; simp)] at hu
  rw [if_neg ho,e1]
  unfold Sto.B Sto.M at hm hu ⊢
  dsimp only at hm hu ⊢
  refine run0 ti ?_
  refine use (hm _ _) ?_
  refine run0 ti ?_
  refine use (hu _ _) ?_
  refine run0 ti ?_
  exact ⟨_,le_refl _,rfl,rfl,rfl⟩
end AX
end Go.Proofs.YtnjkemakcejceaaGreatDoor

namespace Go.Proofs.YtnjkemakcejceaaGreatDoor
open Go.RowKit
set_option maxHeartbeats 4000000
namespace AX
theorem row_at {α : Type} (f : α → List A) (l : List α) (i : Nat) (h : i < l.length) (hl : l.length ≤ 4611686018427387904) :
  (l.map f).length = l.length ∧ (i : Int) < (l.length : Int) ∧ (0 : Int) ≤ (i : Int) ∧ (l.map f).getD i [] = f l[i] ∧ IntKind.i64.wrap ((i : Int) + 1) = ((i + 1 : Nat) : Int):=
 ⟨List.length_map _,by omega,by omega,map_getD f l i h,by rw [wrap64 (by omega) (by omega)]; omega⟩
theorem row_end {α : Type} (f : α → List A) (l : List α) (i : Nat) (h : l.length ≤ i) : (l.map f).length = l.length ∧ ¬ (i : Int) < (l.length : Int):=⟨List.length_map _,by omega⟩
structure Act where
 kind : Int
 who : List UInt8
 n : Int
 st : Sf.St
 next : Bool
 key : List UInt8
def Act.cells (a : Act) : List A:=[.int .i64 a.kind,.str a.who,.int .i64 a.n,.str a.st.lin,.int .i64 a.st.ser,.sl 13 .no (a.st.insts.map Sf.Inst.cells),.sl 3 .no (a.st.pends.map Sf.Pend.cells),.sl 7 .no (a.st.outs.map Sf.Outp.cells),.bool a.next,.str a.key]
def Act.ok (a : Act) : Bool:=Sf.smallP 8 60 a.st && (decide (a.who.length ≤ 100) && decide (a.key.length ≤ 100))
def fewB (l : List Act) : Bool:=(l.take 30).all Act.ok && decide (l.length ≤ 30)
def Act.to (a : Act) (lin : List UInt8) (ser : Int) : Sf.St:=if a.next then { a.st with lin:=lin,ser:=ser } else a.st
def c_few34 : AX.AFn:=⟨42,.seq (.reg false [aR 2 (.mv (.c (.bool false)))]) (.seq (.seq (.reg false [aR 3 (.mv (aI 0))]) (.block 0 (.loop (.seq (.seq (.reg false [aM 4 3,aM 5 0,aR 6 (.len false (.t 5)),aR 7 (.bin .lss (.t 4) (.t 6)),aM 8 7,aG 9 (.mv (.t 3)) 8 true,aG 10 (.bin .lss (.t 9) (aI 30)) 8 true,aR 11 (.pick (.t 8) (.t 10) (.c (.bool false)))]) (.cond (.t 11) (.skip) (.exit 0))) (.seq (.block 1 (.seq (.reg false [aM 14 0,aM 15 3,aR 16 (.iaddr 10 (.t 14) (.t 15)),aR 17 (.faddr 3 (.t 16)),aR 18 (.load true 5 (.t 17)),aR 19 (.call 38 [.t 18,aI 8,aI 60]),aR 20 (.un .not (.t 19)),aM 21 20,aG 22 (.mv (.t 0)) 21 false,aG 23 (.mv (.t 3)) 21 false,aG 24 (.iaddr 10 (.t 22) (.t 23)) 21 false,aG 25 (.faddr 1 (.t 24)) 21 false,aG 26 (.load false 1 (.t 25)) 21 false,aG 27 (.len true (.t 26)) 21 false,aG 28 (.bin .gtr (.t 27) (aI 100)) 21 false,aR 29 (.pick (.t 21) (.c (.bool true)) (.t 28)),aM 30 29,aG 31 (.mv (.t 0)) 30 false,aG 32 (.mv (.t 3)) 30 false,aG 33 (.iaddr 10 (.t 31) (.t 32)) 30 false,aG 34 (.faddr 9 (.t 33)) 30 false,aG 35 (.load false 1 (.t 34)) 30 false,aG 36 (.len true (.t 35)) 30 false,aG 37 (.bin .gtr (.t 36) (aI 100)) 30 false,aR 38 (.pick (.t 30) (.c (.bool true)) (.t 37))]) (.cond (.t 38) (.seq (.reg false [aR 2 (.mv (.c (.bool false)))]) (.ret)) (.skip)))) (.reg false [aM 12 3,aR 13 (.bin .add (.t 12) (aI 1)),aM 3 13])))))) (.seq (.reg false [aM 39 0,aR 40 (.len false (.t 39)),aR 41 (.bin .leq (.t 40) (aI 30)),aM 2 41]) (.ret))),[.t 2]⟩
theorem h_few34 : AX.compFn Tryz.prog 14 = some c_few34:=by kernel_rfl
def c_next34 : AX.AFn:=⟨17,.seq (.reg false [aR 3 (.box 58 (.t 0)),aR 6 (.alloc 26 [.str [],.int .i64 0,.sl 0 .nil [],.sl 0 .nil [],.sl 0 .nil []])]) (.seq (.reg false [aR 8 (.faddr 3 (.t 3)),aR 9 (.load true 5 (.t 8)),aR 7 (.alloc 26 [.str [],.int .i64 0,.sl 0 .nil [],.sl 0 .nil [],.sl 0 .nil []]),aU (.store 5 (.t 7) (.t 9))]) (.seq (.seq (.reg false [aR 10 (.faddr 8 (.t 3)),aR 11 (.load false 1 (.t 10))]) (.cond (.t 11) (.seq (.reg false [aM 12 1,aR 13 (.faddr 0 (.t 7)),aU (.store 1 (.t 13) (.t 12))]) (.reg false [aM 14 2,aR 15 (.faddr 1 (.t 7)),aU (.store 1 (.t 15) (.t 14))])) (.skip))) (.seq (.reg false [aR 16 (.load true 5 (.t 7)),aU (.store 5 (.t 6) (.t 16))]) (.ret)))),[.c 6 true 5]⟩
theorem h_next34 : AX.compFn Tryz.prog 26 = some c_next34:=by kernel_rfl
theorem a_few34 (l : List Act) (hin : ∀ a ∈ l,Sf.StIn a.st) (hl : l.length ≤ 1000000000) (h : Hp) : ACall Tryz.prog GT 14 [.sl 10 .no (l.map Act.cells)] h fun r h' => r = .bool (fewB l) ∧ h' = h:=by
 refine pcall ?_ rfl (by simp [A.pure,A.data]) h
 refine acall_of mixedT h_few34 (by simp [c_few34]) ?_
 dsimp only [c_few34]
 obtain ⟨q,hq⟩ : ∃ q,fewB l = q:=⟨_,rfl⟩
 rw [hq]
 unfold fewB at hq
 have e30 : decide ((l.length : Int) ≤ 30) = decide (l.length ≤ 30):=by rw [decide_eq_decide]; omega
 have lt30 : (l.take 30).length = min 30 l.length:=List.length_take
 refine run0 ti ?_
 refine awp_loop (fun m ts hh => hh = ⟨[],[]⟩ ∧ ∃ i : Nat,m = l.length - i ∧ i ≤ l.length ∧ i ≤ 30 ∧ ((l.take 30).drop i).all Act.ok = (l.take 30).all Act.ok ∧ (ts 0 = .sl 10 .no (l.map Act.cells) ∧ ts 3 = .int .i64 (i : Nat))) l.length ?_ ?_
 ·exact ⟨rfl,0,rfl,Nat.zero_le _,by omega,rfl,by (exact inv0 ti)⟩
 rintro m ts hh ⟨rfl,i,rfl,hi,h30,heq,ht⟩
 have fin : l.length ≤ i ∨ 30 ≤ i → (l.take 30).all Act.ok = true:=fun hc => by
  rw [← heq,List.drop_of_length_le (by omega)]; rfl
 rcases Nat.lt_or_ge i l.length with hlt | hge
 rotate_left
 ·have hf:=row_end Act.cells l i hge
  rw [fin (.inl hge),Bool.true_and] at hq
  refine run0 (ai ht hf) ?_
  exact ⟨_,le_refl _,by rw [tupA_1,← hq,e30]⟩
 have hf:=row_at Act.cells l i hlt (by omega)
 rcases Nat.lt_or_ge i 30 with h3 | h3
 rotate_left
 ·have g3 : ¬ (i : Int) < 30:=by omega
  rw [fin (.inr h3),Bool.true_and] at hq
  refine run0 (ai ht (ai hf g3)) ?_
  exact ⟨_,le_refl _,by rw [tupA_1,← hq,e30]⟩
 have g3 : (i : Int) < 30:=by omega
 have hlt' : i < (l.take 30).length:=by omega
 rw [all_drop _ _ _ hlt',List.getElem_take] at heq
 have hc:=a_r31Small l[i].st (hin _ (List.getElem_mem hlt)) 8 60 (by decide) (by decide) (by decide)
 obtain ⟨a,ha⟩ : ∃ a,l[i] = a:=⟨_,rfl⟩
 rw [ha] at hf heq hc
 obtain ⟨k,who,n,⟨lin,ser,ins,ps,os⟩,nx,key⟩:=a
 simp only [Act.cells] at hf
 simp only [Act.ok] at heq
 simp only [Sf.St.A] at hc
 obtain ⟨b,hb⟩ : ∃ b,Sf.smallP 8 60 ⟨lin,ser,ins,ps,os⟩ = b:=⟨_,rfl⟩
 rw [hb] at heq hc
 have no : (l.take 30).all Act.ok = false → q = false:=fun e => by rw [← hq,e]; rfl
 refine run0 (ai ht (ai hf g3)) ?_
 refine use (hc _) ?_
 cases b with
 | false =>
  rw [no (by rw [← heq]; rfl)]
  refine run0 (ai ht (ai hf g3)) ?_
  exact ⟨_,le_refl _,rfl⟩
 | true =>
 rcases Nat.lt_or_ge 100 who.length with w1 | w1
 ·have w1' : (who.length : Int) > 100:=by omega
  rw [no (by rw [← heq]; simp; omega)]
  refine run0 (ai ht (ai hf (ai g3 w1'))) ?_
  exact ⟨_,le_refl _,rfl⟩
 have w1' : ¬ (who.length : Int) > 100:=by omega
 rcases Nat.lt_or_ge 100 key.length with w2 | w2
 ·have w2' : (key.length : Int) > 100:=by omega
  rw [no (by rw [← heq]; simp; omega)]
  refine run0 (ai ht (ai hf (ai g3 (ai w1' w2')))) ?_
  exact ⟨_,le_refl _,rfl⟩
 have w2' : ¬ (key.length : Int) > 100:=by omega
 refine run0 (ai ht (ai hf (ai g3 (ai w1' w2')))) ?_
 exact ⟨l.length - (i + 1),by omega,rfl,i + 1,rfl,by omega,by omega,by rw [← heq]; simp [w1,w2],by (exact inv0 (ai ht hf))⟩
theorem a_next34 (a : Act) (lin : List UInt8) (ser : Int) (h : Hp) : ACall Tryz.prog GT 26 [.agg a.cells,.str lin,.int .i64 ser] h fun r h' => r = (a.to lin ser).A ∧ h' = h:=by
 obtain ⟨k,who,n,⟨l0,s0,ins,ps,os⟩,nx,key⟩:=a
 unfold Act.to
 dsimp only [Act.cells]
 refine pcall ?_ (by cases nx <;> rfl) (by simp [A.pure,A.data]) h
 refine acall_of mixedT h_next34 (by simp [c_next34]) ?_
 dsimp only [c_next34]
 cases nx
 ·refine run0 ti ?_
  exact ⟨_,le_refl _,rfl⟩
 ·refine run0 ti ?_
  exact ⟨_,le_refl _,rfl⟩
end AX
end Go.Proofs.YtnjkemakcejceaaGreatDoor

namespace Go.Proofs.YtnjkemakcejceaaGreatDoor
open Go.RowKit Go.ChangeShapes Go.WideShapes Go.Deep
mutual
def D.bulk : D → Nat
 | .int .. => 1
 | .str l => l.length + 1
 | .bool _ => 1
 | .agg l => D.bulks l + 1
 | .sl _ l => D.bulks l + 1
def D.bulks : List D → Nat
 | [] => 0
 | d :: l => d.bulk + D.bulks l
end
theorem bulks_le {H : Type} : ∀ (l : List D) (xs : List (DataW H)),l.length = xs.length → (∀ i (hi : i < l.length) (hj : i < xs.length),l[i].bulk ≤ Rows.uptoBulk xs[i]) → D.bulks l ≤ Rows.uptoBulkAll xs
 | [],[],_,_ => by rw [D.bulks]; exact Nat.zero_le _
 | [],_ :: _,h,_ => by simp at h
 | _ :: _,[],h,_ => by simp at h
 | d :: l,x :: xs,h,hb => by
  rw [D.bulks,Rows.uptoBulkAll]
  exact Nat.add_le_add (hb 0 (by simp) (by simp)) (bulks_le l xs (by simpa using h) fun i hi hj => hb (i + 1) (Nat.succ_lt_succ hi) (Nat.succ_lt_succ hj))
section
variable {H : Type} {enc : TypeId × Value → H} {P : Program} {w : World} {base : Nat} {spare : Nat → Bool} {held : Bool} {K : List TypeId}
theorem trod_fieldsB {n : Nat} (ih : ∀ t,t ∈ K → ∀ cs x,DataW.trod enc P w base spare held n t cs = some x → ∃ d,Rd w (Old w) d cs ∧ Conf P d t ∧ d.bulk ≤ Rows.uptoBulk x.1) (cs : List Value) :
  ∀ (fs : List Field) (o tot : Nat) (ys : List (DataW H × List MemPlace)),(∀ f ∈ fs,f.type ∈ K) → flat P fs o = some tot → cs.length = tot → ys.length = fs.length →
   (∀ (i : Nat) (f : Field),fs[i]? = some f → DataW.trod enc P w base spare held n f.type ((cs.drop f.offset).take (P.cellsOf f.type)) = ys[i]?) →
   ∃ l,RdAgg w (Old w) l (cs.drop o) ∧ ConfL P l (fs.map (·.type)) ∧ D.bulks l ≤ Rows.uptoBulkAll (ys.map (·.1))
 | [],o,tot,ys,hK,hf,hc,hy,hg => by
  simp only [flat,Option.some.injEq] at hf
  exact ⟨[],by unfold RdAgg; exact List.drop_of_length_le (by omega),by unfold ConfL; rfl,by unfold D.bulks; exact Nat.zero_le _⟩
 | f :: fs,o,tot,ys,hK,hf,hc,hy,hg => by
  simp only [flat] at hf
  split at hf
  ·next hfo =>
   match ys,hy with
   | y :: ys,hy =>
    have h0:=hg 0 f rfl
    obtain ⟨d,hd,hcf,hdb⟩:=ih f.type (hK f (by simp)) _ _ h0
    obtain ⟨l,hl,hcl2,hlb⟩:=trod_fieldsB ih cs fs (o + P.cellsOf f.type) tot ys (fun g hg => hK g (by simp [hg])) hf hc (by simpa using hy) (fun i g hi => by simpa using hg (i + 1) g (by simpa using hi))
    refine ⟨d :: l,?_,?_,?_⟩
    ·unfold RdAgg
     refine ⟨_,cs.drop (o + P.cellsOf f.type),?_,by rw [hfo] at hd; exact hd,hl⟩
     rw [← List.drop_drop,List.take_append_drop]
    ·unfold ConfL
     exact ⟨f.type,fs.map (·.type),rfl,hcf,hcl2⟩
    ·rw [List.map_cons,Rows.uptoBulkAll,D.bulks]
     exact Nat.add_le_add hdb hlb
  ·cases hf
theorem trod_rdB (hP : plainAll P K = true) : ∀ (n : Nat) (t : TypeId),t ∈ K → ∀ cs x,DataW.trod enc P w base spare held n t cs = some x → ∃ d,Rd w (Old w) d cs ∧ Conf P d t ∧ d.bulk ≤ Rows.uptoBulk x.1
 | 0,t,hK,cs,x,h => by simp [DataW.trod] at h
 | n + 1,t,hK,cs,x,h => by
  have hk : plainB P K t = true:=by
   unfold plainAll at hP
   rw [List.all_eq_true] at hP
   exact hP t hK
  unfold plainB at hk
  split at hk
  ·next k hu =>
   obtain ⟨m,rfl,rfl,hw⟩:=DataW.trod_int hu h
   exact ⟨.int k m,by unfold Rd; rfl,by unfold Conf; exact ⟨hu,hw⟩,by unfold D.bulk Rows.uptoBulk; exact Nat.le_refl _⟩
  ·next hu =>
   obtain ⟨s,rfl,rfl,hs⟩:=DataW.trod_string hu h
   exact ⟨.str s.data.toList,by unfold Rd; simp,by unfold Conf; exact ⟨hu,by simpa using hs⟩,by unfold D.bulk Rows.uptoBulk; exact Nat.le_refl _⟩
  ·next hu =>
   obtain ⟨b,rfl,rfl⟩:=DataW.trod_bool hu h
   exact ⟨.bool b,by unfold Rd; rfl,by unfold Conf; exact hu,by unfold D.bulk Rows.uptoBulk; exact Nat.le_refl _⟩
  ·next fs hu =>
   rw [Bool.and_eq_true,List.all_eq_true,beq_iff_eq] at hk
   obtain ⟨xs,n',hn,rfl,hcl,hxl,hg⟩:=DataW.trod_struct hu h
   obtain rfl : n' = n:=by omega
   obtain ⟨l,hl,hcf,hlb⟩:=trod_fieldsB (fun t hK cs x h => trod_rdB hP n' t hK cs x h) cs fs.toList 0 _ xs (fun f hf => by simpa using hk.1 f hf) hk.2 hcl (by simpa using hxl) (fun i f hi => hg i f (by simpa using hi))
   exact ⟨.agg l,by unfold Rd; exact hl,by unfold Conf; exact ⟨fs,hu,hcf⟩,by rw [D.bulk,Rows.uptoBulk]; exact Nat.succ_le_succ hlb⟩
  ·next e hu =>
   rw [Bool.and_eq_true,decide_eq_true_eq] at hk
   have heK : e ∈ K:=by simpa using hk.1
   have hpos:=hk.2
   rcases DataW.trod_slice hu h with ⟨rfl,rfl⟩ | ⟨a,len,cap,elems,rest,n',hn,rfl,rfl,hb,hlc,hcm,hel,hi,_⟩
   ·exact ⟨.sl (P.cellsOf e) [],by unfold Rd; exact ⟨none,0,rfl,Nat.le_refl _,by unfold RdRow; trivial⟩,by unfold Conf; exact ⟨e,hu,rfl,by unfold ConfA; trivial,by simp⟩,by simp [D.bulk,D.bulks,Rows.uptoBulk]⟩
   ·obtain rfl : n' = n:=by omega
    have hex : ∀ i,i < len → ∃ d : D,∃ c,c.length = P.cellsOf e ∧ (∀ j,j < P.cellsOf e → w.cell? ((a.add (i * P.cellsOf e)).add j) = c[j]?) ∧ Rd w (Old w) d c ∧ Conf P d e ∧ ∀ y,elems[i]? = some y → d.bulk ≤ Rows.uptoBulk y.1:=by
     intro i hil
     have h1:=hi i hil
     have h2 : elems[i]? = some (elems[i]'(by omega)):=List.getElem?_eq_getElem (by omega)
     rw [h2] at h1
     obtain ⟨c,hc,ht⟩:=Option.bind_eq_some_iff.1 h1
     obtain ⟨d,hd,hcf,hdb⟩:=trod_rdB hP n' e heK c _ ht
     obtain ⟨_,hcl,hat⟩:=World.cells?_some hc
     exact ⟨d,c,hcl,hat,hd,hcf,fun y hy => by rw [h2] at hy; injection hy with hy; subst hy; exact hdb⟩
    haveI : Inhabited D:=⟨.bool true⟩
    obtain ⟨f,hf⟩:=choose_lt hex
    refine ⟨.sl (P.cellsOf e) ((List.range len).map f),?_,?_,?_⟩
    ·unfold Rd
     refine ⟨some a,cap,by simp,by simpa using hlc,RdRow.of _ _ _ fun k hk => ?_⟩
     have hkl : k < len:=by simpa using hk
     obtain ⟨c,hcl,hat,hrd,_⟩:=hf k hkl
     obtain ⟨c0,hcl0,hat0,_,_⟩:=hf 0 (by omega)
     obtain ⟨g,off,sp⟩:=a
     have h0:=hat0 0 hpos
     rw [List.getElem?_eq_getElem (by omega)] at h0
     have hs : sp = none:=by
      have:=(cell_there h0).1
      simpa [Addr.add] using this
     subst hs
     have h1:=hat 0 hpos
     rw [List.getElem?_eq_getElem (by omega)] at h1
     have hlt:=(cell_there h1).2
     rw [add_off,add_off] at hlt
     refine ⟨g,off,c,rfl,hlt,hcl,fun j hj => ?_,by simpa using hrd⟩
     have:=hat j hj
     rw [add_off,add_off] at this
     rw [Nat.zero_add]
     exact this
    ·unfold Conf
     exact ⟨e,hu,rfl,confA_of P e _ fun k hk => by simpa using (hf k (by simpa using hk)).choose_spec.2.2.2.1,by simp; omega⟩
    ·rw [D.bulk,Rows.uptoBulk]
     have:=bulks_le ((List.range len).map f) (elems.map (·.1)) (by simp; omega) (fun i hi hj => by
      obtain ⟨c,_,_,_,_,h9⟩:=hf i (by simpa using hi)
      simpa using h9 (elems[i]'(by simpa using hj)) (List.getElem?_eq_getElem _))
     omega
  ·cases hk
end
end Go.Proofs.YtnjkemakcejceaaGreatDoor

namespace Go.Proofs.YtnjkemakcejceaaGreatDoor
open Go.RowKit Go.ChangeShapes Go.WideShapes
theorem list_of_ {α : Type} {f : α → D} {Q : α → Prop} : ∀ l : List D,(∀ d ∈ l,∃ x,d = f x ∧ Q x) → ∃ xs : List α,l = xs.map f ∧ ∀ x ∈ xs,Q x
 | [],h => ⟨[],rfl,by simp⟩
 | d :: l,h => by
  obtain ⟨x,rfl,hx⟩:=h d (by simp)
  obtain ⟨xs,rfl,hxs⟩:=list_of_ l fun d hd => h d (by simp [hd])
  exact ⟨x :: xs,rfl,List.forall_mem_cons.2 ⟨hx,hxs⟩⟩
namespace Sf
def Inst.toD (x : Inst) : D:=.agg [.str x.addr,.str x.dep,.str x.id,.str x.typ,x.attrs.toD,.int .i64 x.ver,.bool x.tainted,.bool x.first,.sl 1 (x.deps.map .str)]
def Pend.toD (p : Pend) : D:=.agg [.str p.addr,.str p.typ,.str p.tok]
def Outp.toD (o : Outp) : D:=.agg [.str o.name,o.value.toD,.bool o.sens]
def St.toD (s : St) : D:=.agg [.str s.lin,.int .i64 s.ser,.sl 13 (s.insts.map Inst.toD),.sl 3 (s.pends.map Pend.toD),.sl 7 (s.outs.map Outp.toD)]
structure St.Wf (s : St) : Prop where
 insts : ∀ x ∈ s.insts,x.attrs.Wf
 outs : ∀ x ∈ s.outs,x.value.Wf
 ser : (Lit.int .i64 s.ser).wf = true
theorem Inst.cells_toD (x : Inst) : x.toD.cells = x.cells:=by
 obtain ⟨a,d,i,t,⟨k,n,s,is,ks⟩,v,tn,fi,ds⟩:=x
 unfold Inst.toD Inst.cells
 simp only [D.cells,D.cellsL,V.cells_toD,V.cells,strs_rows,List.cons_append,List.nil_append,List.append_nil]
theorem Pend.cells_toD (x : Pend) : x.toD.cells = x.cells:=by
 unfold Pend.toD Pend.cells
 simp only [D.cells,D.cellsL,List.cons_append,List.nil_append,List.append_nil]
theorem Outp.cells_toD (x : Outp) : x.toD.cells = x.cells:=by
 obtain ⟨m,⟨k,n,s,is,ks⟩,b⟩:=x
 unfold Outp.toD Outp.cells
 simp only [D.cells,D.cellsL,V.cells_toD,V.cells,strs_rows,List.cons_append,List.nil_append,List.append_nil]
theorem rows_map {α : Type} (f : α → D) (g : α → List AX.A) (h : ∀ x,(f x).cells = g x) : ∀ l : List α,D.rows (l.map f) = l.map g
 | [] => by simp [D.rows]
 | x :: l => by simp only [List.map_cons,D.rows,h,rows_map f g h l]
theorem St.cells_toD (s : St) : AX.A.agg s.toD.cells = s.A:=by
 unfold St.toD St.A
 simp only [D.cells,D.cellsL,rows_map _ _ Inst.cells_toD,rows_map _ _ Pend.cells_toD,rows_map _ _ Outp.cells_toD,List.cons_append,List.nil_append,List.append_nil]
set_option maxRecDepth 100000 in
theorem conf_inst {d : D} (h : Conf Tryz.prog d 42) : ∃ x : Inst,d = x.toD ∧ x.attrs.Wf:=by
 obtain ⟨l',rfl,h2⟩:=conf_struct Tryz.underlying42 h
 obtain ⟨d0,l1,rfl,c0,h2⟩:=confL_cons h2
 obtain ⟨d1,l2,rfl,c1,h2⟩:=confL_cons h2
 obtain ⟨d2,l3,rfl,c2,h2⟩:=confL_cons h2
 obtain ⟨d3,l4,rfl,c3,h2⟩:=confL_cons h2
 obtain ⟨d4,l5,rfl,c4,h2⟩:=confL_cons h2
 obtain ⟨d5,l6,rfl,c5,h2⟩:=confL_cons h2
 obtain ⟨d6,l7,rfl,c6,h2⟩:=confL_cons h2
 obtain ⟨d7,l8,rfl,c7,h2⟩:=confL_cons h2
 obtain ⟨d8,l9,rfl,c8,h2⟩:=confL_cons h2
 obtain rfl:=confL_nil h2
 obtain ⟨a,rfl,_⟩:=conf_str Tryz.underlying9 c0
 obtain ⟨b,rfl,_⟩:=conf_str Tryz.underlying9 c1
 obtain ⟨c,rfl,_⟩:=conf_str Tryz.underlying9 c2
 obtain ⟨e,rfl,_⟩:=conf_str Tryz.underlying9 c3
 obtain ⟨v,rfl,hv⟩:=conf_val c4
 obtain ⟨n,rfl,_⟩:=conf_int (k:=.i64) Tryz.underlying3 c5
 obtain ⟨t,rfl⟩:=conf_bool Tryz.underlying4 c6
 obtain ⟨f,rfl⟩:=conf_bool Tryz.underlying4 c7
 obtain ⟨l4,rfl,c9,_⟩:=conf_slice Tryz.underlying38 c8
 obtain ⟨ks,rfl,_⟩:=conf_strs Tryz.underlying9 l4 c9
 have hw : Tryz.prog.cellsOf 9 = 1:=by kernel_rfl
 rw [hw]
 exact ⟨⟨a,b,c,e,v,n,t,f,ks⟩,rfl,hv⟩
set_option maxRecDepth 100000 in
theorem conf_pend {d : D} (h : Conf Tryz.prog d 95) : ∃ x : Pend,d = x.toD ∧ True:=by
 obtain ⟨l',rfl,h2⟩:=conf_struct Tryz.underlying95 h
 obtain ⟨d0,l1,rfl,c0,h2⟩:=confL_cons h2
 obtain ⟨d1,l2,rfl,c1,h2⟩:=confL_cons h2
 obtain ⟨d2,l3,rfl,c2,h2⟩:=confL_cons h2
 obtain rfl:=confL_nil h2
 obtain ⟨a,rfl,_⟩:=conf_str Tryz.underlying9 c0
 obtain ⟨b,rfl,_⟩:=conf_str Tryz.underlying9 c1
 obtain ⟨c,rfl,_⟩:=conf_str Tryz.underlying9 c2
 exact ⟨⟨a,b,c⟩,rfl,trivial⟩
set_option maxRecDepth 100000 in
theorem conf_outp {d : D} (h : Conf Tryz.prog d 98) : ∃ x : Outp,d = x.toD ∧ x.value.Wf:=by
 obtain ⟨l',rfl,h2⟩:=conf_struct Tryz.underlying98 h
 obtain ⟨d0,l1,rfl,c0,h2⟩:=confL_cons h2
 obtain ⟨d1,l2,rfl,c1,h2⟩:=confL_cons h2
 obtain ⟨d2,l3,rfl,c2,h2⟩:=confL_cons h2
 obtain rfl:=confL_nil h2
 obtain ⟨a,rfl,_⟩:=conf_str Tryz.underlying9 c0
 obtain ⟨v,rfl,hv⟩:=conf_val c1
 obtain ⟨t,rfl⟩:=conf_bool Tryz.underlying4 c2
 exact ⟨⟨a,v,t⟩,rfl,hv⟩
set_option maxRecDepth 100000 in
theorem conf_st {d : D} (h : Conf Tryz.prog d 26) : ∃ x : St,d = x.toD ∧ x.Wf:=by
 obtain ⟨l',rfl,h2⟩:=conf_struct Tryz.underlying26 h
 obtain ⟨d0,l1,rfl,c0,h2⟩:=confL_cons h2
 obtain ⟨d1,l2,rfl,c1,h2⟩:=confL_cons h2
 obtain ⟨d2,l3,rfl,c2,h2⟩:=confL_cons h2
 obtain ⟨d3,l4,rfl,c3,h2⟩:=confL_cons h2
 obtain ⟨d4,l5,rfl,c4,h2⟩:=confL_cons h2
 obtain rfl:=confL_nil h2
 obtain ⟨a,rfl,_⟩:=conf_str Tryz.underlying9 c0
 obtain ⟨n,rfl,hn⟩:=conf_int (k:=.i64) Tryz.underlying3 c1
 obtain ⟨l2,rfl,k2,_⟩:=conf_slice Tryz.underlying22 c2
 obtain ⟨l3,rfl,k3,_⟩:=conf_slice Tryz.underlying23 c3
 obtain ⟨l4,rfl,k4,_⟩:=conf_slice Tryz.underlying24 c4
 obtain ⟨xs,rfl,hx⟩:=list_of_ l2 fun d hd => conf_inst (confA_mem k2 d hd)
 obtain ⟨ps,rfl,_⟩:=list_of_ l3 fun d hd => conf_pend (confA_mem k3 d hd)
 obtain ⟨os,rfl,ho⟩:=list_of_ l4 fun d hd => conf_outp (confA_mem k4 d hd)
 have hw1 : Tryz.prog.cellsOf 42 = 13:=by kernel_rfl
 have hw2 : Tryz.prog.cellsOf 95 = 3:=by kernel_rfl
 have hw3 : Tryz.prog.cellsOf 98 = 7:=by kernel_rfl
 rw [hw1,hw2,hw3]
 exact ⟨⟨a,n,xs,ps,os⟩,rfl,hx,ho,hn⟩
end Sf
end Go.Proofs.YtnjkemakcejceaaGreatDoor

namespace Go.Proofs.YtnjkemakcejceaaGreatDoor
open Go.RowKit Go.ChangeShapes Go.WideShapes
theorem strs_bulk : ∀ ks : List (List UInt8),ks.length ≤ D.bulks (ks.map .str) ∧ ∀ s ∈ ks,s.length + 1 ≤ D.bulks (ks.map .str)
 | [] => by simp
 | k :: ks => by
  obtain ⟨h1,h2⟩:=strs_bulk ks
  rw [List.map_cons,D.bulks,D.bulk]
  refine ⟨by simp only [List.length_cons]; omega,fun s hs => ?_⟩
  rcases List.mem_cons.1 hs with rfl | hs
  ·omega
  ·have:=h2 s hs; omega
theorem num10 (n : Int) : (Wire.num n).length ≤ 10:=(Wire.encF_len 9 (Wire.zig n)).2
theorem strE10 (s : List UInt8) : (Wire.strE s).length ≤ 10 + s.length:=by
 unfold Wire.strE
 rw [List.length_append]
 have:=num10 (s.length : Int)
 omega
theorem bulk_pos (d : D) : 1 ≤ d.bulk:=by cases d <;> rw [D.bulk] <;> omega
mutual
theorem enc_bulk : ∀ v : V,(Val.enc v).length ≤ 30 * v.toD.bulk
 | .mk k n s is ks => by
  have h1:=encs_bulk (k == 5) is ks
  have n1:=num10 k
  have n2:=num10 n
  have n3:=strE10 s
  have n4:=num10 (is.length : Int)
  rw [Val.enc,V.toD,D.bulk,D.bulks,D.bulks,D.bulks,D.bulks,D.bulks,D.bulks,D.bulk,D.bulk,D.bulk,D.bulk,D.bulk,List.length_append]
  split
  ·omega
  ·split
   ·omega
   ·split
    ·rw [List.length_append]; omega
    ·simp only [List.length_nil]; omega
theorem encs_bulk : ∀ (m : Bool) (l : List V) (ks : List (List UInt8)),(Val.encs m l ks).length ≤ 30 * (D.bulks (V.toDs l) + D.bulks (ks.map .str))
 | m,[],ks => by rw [Val.encs]; simp
 | m,v :: l,ks => by
  have h1:=enc_bulk v
  have hp:=bulk_pos v.toD
  rw [Val.encs,V.toDs,D.bulks,List.length_append,List.length_append]
  cases ks with
  | nil =>
   have h2:=encs_bulk m l ([] : List (List UInt8)).tail
   have : (Val.keyE m []).length = 0:=by cases m <;> rfl
   simp only [List.tail_nil] at h2 ⊢
   omega
  | cons k ks =>
   have h2:=encs_bulk m l (k :: ks).tail
   have h3 : (Val.keyE m (k :: ks)).length ≤ 10 + k.length:=by
    cases m
    ·simp [Val.keyE]
    ·exact strE10 k
   rw [List.tail_cons] at h2
   rw [List.map_cons,D.bulks,D.bulk,List.tail_cons]
   omega
end
theorem flat_bulk {α : Type} (f : α → List UInt8) (g : α → D) (h : ∀ x,(f x).length ≤ 30 * (g x).bulk) : ∀ l : List α,(l.flatMap f).length ≤ 30 * D.bulks (l.map g)
 | [] => by simp
 | x :: l => by
  have:=h x
  have:=flat_bulk f g h l
  rw [List.flatMap_cons,List.map_cons,D.bulks,List.length_append]
  omega
theorem map_bulk {α : Type} (g : α → D) : ∀ l : List α,l.length ≤ D.bulks (l.map g) ∧ ∀ x ∈ l,(g x).bulk ≤ D.bulks (l.map g)
 | [] => by simp
 | x :: l => by
  obtain ⟨h1,h2⟩:=map_bulk g l
  have:=bulk_pos (g x)
  rw [List.map_cons,D.bulks]
  refine ⟨by simp only [List.length_cons]; omega,fun y hy => ?_⟩
  rcases List.mem_cons.1 hy with rfl | hy
  ·omega
  ·have:=h2 y hy; omega
namespace Sf
theorem flag10 (b : Bool) : (flagE b).length ≤ 10:=num10 _
theorem instE_bulk (ver : Int) (x : Inst) : (instE ver x).length ≤ 30 * x.toD.bulk:=by
 have a1:=strE10 x.addr
 have a2:=strE10 x.dep
 have a3:=strE10 x.id
 have a4:=strE10 x.typ
 have a5:=enc_bulk x.attrs
 have a6:=num10 x.ver
 have a7:=flag10 x.tainted
 have a8 : (if ver = 2 then flagE x.first else []).length ≤ 10:=by
  split
  ·exact flag10 _
  ·simp
 have a9:=num10 (x.deps.length : Int)
 have a10:=flat_bulk Wire.strE D.str (fun s => by rw [D.bulk]; have:=strE10 s; omega) x.deps
 unfold instE wordsE Inst.toD
 simp only [List.length_append,D.bulk,D.bulks]
 omega
theorem pendE_bulk (x : Pend) : (pendE x).length ≤ 30 * x.toD.bulk:=by
 have a1:=strE10 x.addr
 have a2:=strE10 x.typ
 have a3:=strE10 x.tok
 unfold pendE Pend.toD
 simp only [List.length_append,D.bulk,D.bulks]
 omega
theorem outE_bulk (x : Outp) : (outE x).length ≤ 30 * x.toD.bulk:=by
 have a1:=strE10 x.name
 have a2:=enc_bulk x.value
 have a3:=flag10 x.sens
 unfold outE Outp.toD
 simp only [List.length_append,D.bulk,D.bulks]
 omega
theorem stE_bulk (ver : Int) (s : St) : (stE ver s).length ≤ 30 * s.toD.bulk:=by
 have a0 : magic.length = 4:=rfl
 have a1:=num10 ver
 have a2:=strE10 s.lin
 have a3:=num10 s.ser
 have a4:=num10 (s.insts.length : Int)
 have a5:=flat_bulk (instE ver) Inst.toD (instE_bulk ver) s.insts
 have a6 : (if ver = 2 then Wire.num s.pends.length ++ s.pends.flatMap pendE else []).length ≤ 10 + 30 * D.bulks (s.pends.map Pend.toD):=by
  have b1:=num10 (s.pends.length : Int)
  have b2:=flat_bulk pendE Pend.toD pendE_bulk s.pends
  split
  ·rw [List.length_append]; omega
  ·simp
 have a7:=num10 (s.outs.length : Int)
 have a8:=flat_bulk outE Outp.toD outE_bulk s.outs
 unfold stE St.toD
 simp only [List.length_append,D.bulk,D.bulks]
 omega
structure Fit (s : St) : Prop where
 sin : AX.Sf.StIn s
 tin : TypIn s
 len : ∀ ver,(stE ver s).length + 20 ≤ 1000000000
theorem inst_fit {x : Inst} (hw : x.attrs.Wf) (hb : x.toD.bulk ≤ 1500000) : AX.Sf.InstIn x ∧ x.typ.length ≤ 2000000:=by
 unfold Inst.toD at hb
 simp only [D.bulk,D.bulks] at hb
 obtain ⟨h1,h2⟩:=strs_bulk x.deps
 exact ⟨⟨by omega,by omega,by omega,V.Wf.lens _ hw,by omega,fun s hs => by have:=h2 s hs; omega⟩,by omega⟩
theorem fit_of {s : St} (hw : s.Wf) (hb : s.toD.bulk ≤ 1500000) : Fit s:=by
 have hE:=fun ver => stE_bulk ver s
 have hb':=hb
 unfold St.toD at hb'
 simp only [D.bulk,D.bulks] at hb'
 obtain ⟨i1,i2⟩:=map_bulk Inst.toD s.insts
 obtain ⟨p1,p2⟩:=map_bulk Pend.toD s.pends
 obtain ⟨o1,o2⟩:=map_bulk Outp.toD s.outs
 have hi : ∀ x ∈ s.insts,AX.Sf.InstIn x ∧ x.typ.length ≤ 2000000:=fun x hx => inst_fit (hw.insts x hx) (by have:=i2 x hx; omega)
 have hp : ∀ x ∈ s.pends,x.addr.length ≤ 2000000 ∧ x.typ.length ≤ 2000000 ∧ x.tok.length ≤ 2000000:=fun x hx => by
  have : x.toD.bulk ≤ 1500000:=by have:=p2 x hx; omega
  unfold Pend.toD at this
  simp only [D.bulk,D.bulks] at this
  refine ⟨?_,?_,?_⟩ <;> omega
 have ho : ∀ x ∈ s.outs,x.name.length ≤ 2000000 ∧ x.value.lens:=fun x hx => by
  have : x.toD.bulk ≤ 1500000:=by have:=o2 x hx; omega
  unfold Outp.toD at this
  simp only [D.bulk,D.bulks] at this
  exact ⟨by omega,V.Wf.lens _ (hw.outs x hx)⟩
 refine ⟨⟨by omega,fun x hx => (hi x hx).1,fun x hx => ⟨(hp x hx).1,(hp x hx).2.2⟩,ho,by omega,by omega,by omega⟩,⟨fun x hx => (hi x hx).2,fun x hx => (hp x hx).2.1⟩,fun ver => ?_⟩
 have:=hE ver
 omega
end Sf
end Go.Proofs.YtnjkemakcejceaaGreatDoor
