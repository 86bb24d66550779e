/- Part of what the proof needs. -/
import Derived.Test.YteklhoajalgehaaGreatDoorMFrJournalBeginsUptoE
set_option maxHeartbeats 4000000
set_option linter.unusedSimpArgs false
set_option linter.unusedVariables false
set_option linter.unnecessarySimpa false
namespace Go.Proofs.YteklhoajalgehaaGreatDoor
open Go.RowKit
namespace AX
def nxt2 (acts : List Nat) (a n i j : Nat) : Nat:=if i = a then j + (n + 1) else if acts[j % (n + 1)]? = some i then j + 1 else j
def agen (P : Program) (G : World → Prop) (acts : List Nat) (a n : Nat) (hl : List Hp) : Nat → List AOper → List (List Nat) → (Ts → Prop) → Ts → Prop
 | _,[],_,K,ts => K ts
 | i,o :: os,stg,K,ts => ∃ v,forL (fun j => guardP ts o.guard (aopP P G (evX ts) (hl.getD j ⟨[],[]⟩) (fun v' h' => v' = v ∧ h' = hl.getD (nxt2 acts a n i j) ⟨[],[]⟩) o.op) (v = .tup [] ∧ i ≠ a)) (stg.headD []) ∧ agen P G acts a n hl (i + 1) os stg.tail K (put ts o.dst v)
def possB (ops : List AOper) (acts : List Nat) (a i : Nat) (b : Bool) (k : Nat) : Bool:=
 stageB ops acts i k && (b || (!((ops[i]?.map (·.after)).getD []).contains a && (acts.take k).all fun m => !((ops[m]?.map (·.after)).getD []).contains a)) && !(b && i == a)
def stages2B (ops : List AOper) (acts : List Nat) (a : Nat) (stg : List (List Nat)) : Bool:=
 (List.range ops.length).all fun i => (List.range (acts.length + 1)).all fun k => (!possB ops acts a i false k || (stg.getD i []).contains k) && (!possB ops acts a i true k || (stg.getD i []).contains (k + (acts.length + 1)))
def stgs2 (ops : List AOper) (acts : List Nat) (a : Nat) : List (List Nat):=
 (List.range ops.length).map fun i => ((List.range (acts.length + 1)).filter fun k => possB ops acts a i false k) ++ ((List.range (acts.length + 1)).filter fun k => possB ops acts a i true k).map fun k => k + (acts.length + 1)
section
variable {P : Program} {G : World → Prop}
theorem agen_trace {acts : List Nat} {a n : Nat} {hl : List Hp} {K : Ts → Prop} : ∀ (os : List AOper) (b : Nat) (stg : List (List Nat)) (ts : Ts),agen P G acts a n hl b os stg K ts →
  ∃ vs : Nat → A,(∀ (i : Nat) (o : AOper),os[i]? = some o → ∀ j ∈ stg.getD i [],guardP (pre ts os vs i) o.guard (aopP P G (evX (pre ts os vs i)) (hl.getD j ⟨[],[]⟩) (fun v' h' => v' = vs i ∧ h' = hl.getD (nxt2 acts a n (b + i) j) ⟨[],[]⟩) o.op) (vs i = .tup [] ∧ b + i ≠ a)) ∧ K (pre ts os vs os.length)
 | [],b,stg,ts,hp => ⟨fun _ => .tup [],fun i o hi => by simp at hi,hp⟩
 | o :: os,b,stg,ts,hp => by
  obtain ⟨v,h1,h2⟩:=hp
  obtain ⟨vs,h3,h4⟩:=agen_trace os (b + 1) stg.tail _ h2
  refine ⟨fun i => match i with | 0 => v | i + 1 => vs i,fun i o' hi k hk => ?_,h4⟩
  cases i with
  | zero =>
   simp at hi; subst hi
   have hk' : k ∈ stg.headD []:=by cases stg with
    | nil => simp at hk
    | cons a l => simpa using hk
   exact forL_mem h1 k hk'
  | succ i =>
   have hk' : k ∈ stg.tail.getD i []:=by cases stg with
    | nil => simp at hk
    | cons a l => simpa using hk
   have:=h3 i o' (by simpa using hi) k hk'
   rw [show b + 1 + i = b + (i + 1) by omega] at this
   exact this
theorem adraw_gen {ops : List AOper} {K : Ts → Hp → Prop} {ts : Ts} (acts : List Nat) (a : Nat) (hl : List Hp) (stg : List (List Nat)) (he : edgesB 0 ops = true) (hs : seesB ops = true) (hc : chainB ops acts = true) (hst : stages2B ops acts a stg = true) (hna : acts.contains a = false) (hal : a < ops.length)
  (hp : agen P G acts a acts.length hl 0 ops stg (fun ts => K ts (hl.getD (acts.length + (acts.length + 1)) ⟨[],[]⟩)) ts) : adraw P G ops K ts (hl.getD 0 ⟨[],[]⟩):=by
 obtain ⟨vs,t1,t2⟩:=agen_trace ops 0 stg ts hp
 have hna' : ∀ m (h : m < acts.length),acts[m] ≠ a:=fun m h e => by
  have : acts.contains a = true:=by rw [List.contains_iff_mem]; rw [← e]; exact List.getElem_mem h
  rw [hna] at this; cases this
 let idx : (Nat → Bool) → Nat:=fun D => cnt acts D + if D a = true then acts.length + 1 else 0
 refine adraw_of he vs (fun D => hl.getD (idx D) ⟨[],[]⟩) ?_ (fun D i o hi hDi hcl haf => ?_) ?_
 ·show hl.getD (idx _) _ = _
  have : idx (fun _ => false) = 0:=by
   show cnt acts _ + _ = 0
   rw [cnt_of acts (fun _ => false) 0 (Nat.zero_le _) (fun m h => by simp)]
   simp
  rw [this]
 ·obtain ⟨hk1,hk2⟩:=cnt_spec (chainG_of hc) hcl
  obtain ⟨k,hkD⟩ : ∃ k,cnt acts D = k:=⟨_,rfl⟩
  rw [hkD] at hk1 hk2
  have hsee:=TD_sees he hs hi hDi hcl haf vs ts
  have hilt : i < ops.length:=(List.getElem?_eq_some_iff.1 hi).1
  have h2 : stageB ops acts i k = true:=by
   unfold stageB
   refine List.all_eq_true.2 ?_
   rintro ⟨a',m⟩ hm
   have hm':=List.mk_mem_zipIdx_iff_getElem?.1 hm
   obtain ⟨hml,hma⟩:=List.getElem?_eq_some_iff.1 hm'
   subst hma
   simp only [Bool.and_eq_true,Bool.or_eq_true,decide_eq_true_eq,Bool.not_eq_true']
   constructor
   ·by_cases hin : acts[m] ∈ o.after
    ·right; exact (hk2 m hml).1 (haf _ hin)
    ·left; rw [hi]; simpa using hin
   ·by_cases hin : D acts[m] = true
    ·left
     simp only [Bool.or_eq_false_iff]
     constructor
     ·cases ho : ops[acts[m]]? with
      | none => simp
      | some o' =>
       simp only [Option.map_some,Option.getD_some]
       rw [Bool.eq_false_iff]
       intro hcon
       have:=hcl _ _ ho hin i (by simpa using hcon)
       rw [hDi] at this; cases this
     ·rw [Bool.eq_false_iff]
      intro hcon
      have : acts[m] = i:=by simpa using hcon
      rw [this,hDi] at hin; cases hin
    ·right
     have:=mt (hk2 m hml).2 hin
     omega
  have hposs : possB ops acts a i (D a) k = true:=by
   unfold possB
   rw [h2,Bool.true_and,Bool.and_eq_true]
   constructor
   ·cases hDa : D a with
    | true => rfl
    | false =>
     rw [Bool.false_or,Bool.and_eq_true]
     constructor
     ·rw [hi]
      simp only [Option.map_some,Option.getD_some,Bool.not_eq_true']
      rw [Bool.eq_false_iff]
      intro hcon
      have:=haf a (by simpa using hcon)
      rw [hDa] at this; cases this
     ·refine List.all_eq_true.2 fun x hx => ?_
      obtain ⟨m,hm,rfl⟩:=List.mem_take_iff_getElem.1 hx
      have hml : m < acts.length:=by omega
      have hDm:=(hk2 m hml).2 (by omega)
      cases ho : ops[acts[m]]? with
      | none => simp
      | some o' =>
       simp only [Option.map_some,Option.getD_some,Bool.not_eq_true']
       rw [Bool.eq_false_iff]
       intro hcon
       have:=hcl _ _ ho hDm a (by simpa using hcon)
       rw [hDa] at this; cases this
   ·cases hDa : D a with
    | false => rfl
    | true =>
     simp only [Bool.true_and,Bool.not_eq_true']
     rw [Bool.eq_false_iff]
     intro hcon
     have : i = a:=by simpa using hcon
     rw [this,hDa] at hDi; cases hDi
  have hmem : idx D ∈ stg.getD i []:=by
   have h1:=List.all_eq_true.1 (List.all_eq_true.1 hst i (List.mem_range.2 hilt)) k (List.mem_range.2 (by omega))
   simp only [Bool.and_eq_true,Bool.or_eq_true,Bool.not_eq_true'] at h1
   show cnt acts D + (if D a = true then acts.length + 1 else 0) ∈ _
   rw [hkD]
   cases hDa : D a with
   | true =>
    rw [hDa] at hposs
    rcases h1.2 with h | h
    ·rw [h] at hposs; cases hposs
    ·simpa using h
   | false =>
    rw [hDa] at hposs
    rcases h1.1 with h | h
    ·rw [h] at hposs; cases hposs
    ·simpa using h
  have h3:=t1 i o hi _ hmem
  rw [Nat.zero_add] at h3
  have hpre : pre ts ops vs i = TD ops vs ts (fun j => decide (j < i)):=funext fun x => pre_eq ops 0 ts vs i he (by omega) x
  rw [hpre] at h3
  have hnd : ∀ m m' (h : m < acts.length) (h' : m' < m),acts[m] ≠ acts[m']'(by omega):=fun m m' h h' e => by
   obtain ⟨o',h1,h2⟩:=chain_after (chainG_of hc) h h'
   have:=edgesB_after he _ _ h1 _ h2
   omega
  have hcnt : cnt acts (fun j => j == i || D j) = if acts[k]? = some i then k + 1 else k:=by
   split
   ·next hki =>
    obtain ⟨hkl,hki⟩:=List.getElem?_eq_some_iff.1 hki
    refine cnt_of acts _ (k + 1) (by omega) fun m h => ?_
    simp only [Bool.or_eq_true,beq_iff_eq]
    rw [hk2 m h]
    constructor
    ·rintro (h1 | h1)
     ·rcases Nat.lt_trichotomy m k with h4 | h4 | h4
      ·omega
      ·omega
      ·exact absurd (h1.trans hki.symm) (hnd m k h h4)
     ·omega
    ·intro h1
     by_cases hmk : m = k
     ·subst hmk; exact .inl hki
     ·exact .inr (by omega)
   ·next hki =>
    refine cnt_of acts _ k hk1 fun m h => ?_
    simp only [Bool.or_eq_true,beq_iff_eq]
    rw [hk2 m h]
    constructor
    ·rintro (h1 | h1)
     ·exfalso
      have h5 : ¬ m < k:=fun h6 => by have:=(hk2 m h).2 h6; rw [h1,hDi] at this; cases this
      have h6 : m ≠ k:=fun e => by subst e; exact hki (by rw [List.getElem?_eq_getElem h,h1])
      obtain ⟨o',h7,h8⟩:=chain_after (chainG_of hc) h (show k < m by omega)
      rw [h1,hi] at h7; injection h7 with h7; subst h7
      have:=(hk2 k (by omega)).1 (haf _ h8)
      omega
     ·exact h1
    ·exact fun h1 => .inr h1
  have hidx : idx (fun j => j == i || D j) = nxt2 acts a acts.length i (idx D):=by
   show cnt acts (fun j => j == i || D j) + (if (a == i || D a) = true then acts.length + 1 else 0) = nxt2 acts a acts.length i (cnt acts D + if D a = true then acts.length + 1 else 0)
   rw [hcnt,hkD]
   unfold nxt2
   by_cases hia : i = a
   ·subst hia
    rw [if_pos rfl,hDi]
    have hk : ¬ acts[k]? = some i:=fun h => by
     obtain ⟨h1,h2⟩:=List.getElem?_eq_some_iff.1 h
     exact hna' k h1 h2
    rw [if_neg hk]
    simp
   ·have hai : (a == i) = false:=by simp; omega
    rw [if_neg hia,hai,Bool.false_or]
    have hmod : (k + if D a = true then acts.length + 1 else 0) % (acts.length + 1) = k:=by
     split
     ·rw [Nat.add_mod_right]; exact Nat.mod_eq_of_lt (by omega)
     ·rw [Nat.add_zero]; exact Nat.mod_eq_of_lt (by omega)
    rw [hmod]
    split <;> omega
  show guardP _ _ (aopP P G _ (hl.getD (idx D) _) (fun v h' => v = vs i ∧ h' = hl.getD (idx fun j => j == i || D j) _) o.op) (vs i = .tup [] ∧ hl.getD (idx fun j => j == i || D j) _ = hl.getD (idx D) _)
  rw [hidx]
  refine guardP_sees (fun x hx => (hsee x hx).symm) ?_
  by_cases hki : acts[k]? = some i
  ·obtain ⟨hkl,hki⟩:=List.getElem?_eq_some_iff.1 hki
   have h1:=List.all_eq_true.1 hc (acts[k],k) (List.mk_mem_zipIdx_iff_getElem?.2 (List.getElem?_eq_getElem hkl))
   simp only [Bool.and_eq_true,hki,hi,Option.map_some,Option.getD_some,Option.isNone_iff_eq_none] at h1
   rw [h1.1.2] at h3 ⊢
   exact aopP_congr (evX_sees fun x hx => (hsee x hx).symm) h3
  ·refine guardP_mono (fun hq => ?_) (fun hq => ?_) h3
   ·exact aopP_congr (evX_sees fun x hx => (hsee x hx).symm) hq
   ·refine ⟨hq.1,?_⟩
    have : nxt2 acts a acts.length i (idx D) = idx D:=by
     unfold nxt2
     rw [if_neg hq.2]
     have hmod : idx D % (acts.length + 1) = k:=by
      show (cnt acts D + if D a = true then acts.length + 1 else 0) % (acts.length + 1) = k
      rw [hkD]
      split
      ·rw [Nat.add_mod_right]; exact Nat.mod_eq_of_lt (by omega)
      ·rw [Nat.add_zero]; exact Nat.mod_eq_of_lt (by omega)
     rw [hmod,if_neg hki]
    rw [this]
 ·have e1 : pre ts ops vs ops.length = TD ops vs ts (fun j => decide (j < ops.length)):=funext fun x => pre_eq ops 0 ts vs _ he (Nat.le_refl _) x
  show K _ (hl.getD (cnt acts _ + _) _)
  rw [← e1,cnt_of acts _ acts.length (Nat.le_refl _) fun m h => ?_]
  ·rw [if_pos (by simpa using hal)]
   exact t2
  ·have h1:=List.all_eq_true.1 hc (acts[m],m) (List.mk_mem_zipIdx_iff_getElem?.2 (List.getElem?_eq_getElem h))
   simp only [Bool.and_eq_true,decide_eq_true_eq] at h1
   simp [h1.1.1,h]
theorem agen_close {acts : List Nat} {a n : Nat} {hl : List Hp} : ∀ (os : List AOper) (acc : List (List Nat)) (b : Nat) (stg : List (List Nat)) (K : Ts → Prop) (ts : Ts),agen P G acts a n hl b os stg K ts → agen P G acts a n hl b (closeF acc os) stg K ts
 | [],acc,b,stg,K,ts,hp => hp
 | o :: os,acc,b,stg,K,ts,hp => by
  obtain ⟨v,h1,h2⟩:=hp
  exact ⟨v,h1,agen_close os _ _ _ _ _ h2⟩
def genB (ops : List AOper) (acts : List Nat) (a : Nat) (stg : List (List Nat)) : Bool:=
 edgesB 0 ops && (edgesB 0 (closeOps ops) && seesB (closeOps ops) && chainB (closeOps ops) acts && stages2B (closeOps ops) acts a stg && !acts.contains a && decide (a < (closeOps ops).length))
theorem go_gen {ops : List AOper} {Q : AExit → Ts → Hp → Prop} {ts : Ts} {h : Hp} (acts : List Nat) (a : Nat) (hl : List Hp) (stg : List (List Nat)) (h0 : hl.getD 0 ⟨[],[]⟩ = h) (hb : genB ops acts a stg = true)
  (hp : agen P G acts a acts.length hl 0 ops stg (fun ts => Q .normal ts (hl.getD (acts.length + (acts.length + 1)) ⟨[],[]⟩)) ts) : awp P G (.reg true ops) Q ts h:=by
 simp only [genB,Bool.and_eq_true,Bool.not_eq_true',decide_eq_true_eq] at hb
 subst h0
 exact ⟨hb.1,adraw_close (adraw_gen acts a hl stg hb.2.1.1.1.1.1 hb.2.1.1.1.1.2 hb.2.1.1.1.2 hb.2.1.1.2 hb.2.1.2 hb.2.2 (agen_close ops [] _ _ _ _ hp))⟩
variable {acts : List Nat} {a n : Nat} {hl : List Hp} {stg : List (List Nat)} {i : Nat} {js : List Nat} {d : Option Nat} {af : List Nat} {os : List AOper} {K : Ts → Prop} {ts : Ts} {v : A}
theorem gn_nil (k : K ts) : agen P G acts a n hl i [] stg K ts:=k
theorem gn_op {o : AOp} (hc : o.isCall = false) (hs : forL (fun j => astep (evX ts) (hl.getD j ⟨[],[]⟩) o = some (v,hl.getD (nxt2 acts a n i j) ⟨[],[]⟩)) js) (k : agen P G acts a n hl (i + 1) os stg K (put ts d v)) : agen P G acts a n hl i (⟨d,o,none,af⟩ :: os) (js :: stg) K ts:=by
 refine ⟨v,?_,k⟩
 show forL _ js
 clear k
 induction js with
 | nil => trivial
 | cons x l ih => exact ⟨aopP_of hc hs.1,ih hs.2⟩
end
end AX
end Go.Proofs.YteklhoajalgehaaGreatDoor

namespace Go.Proofs.YteklhoajalgehaaGreatDoor
open Go.RowKit
namespace AX
abbrev aR (d : Nat) (o : AOp) : AOper:=⟨some d,o,none,[]⟩
abbrev aM (d x : Nat) : AOper:=⟨some d,.mv (.t x),none,[]⟩
abbrev aU (o : AOp) : AOper:=⟨none,o,none,[]⟩
abbrev aG (d : Nat) (o : AOp) (t : Nat) (b : Bool) : AOper:=⟨some d,o,some (t,b),[]⟩
abbrev aL (d x : Nat) : AOper:=⟨some d,.load false 1 (.t x),none,[]⟩
abbrev aF (d i x : Nat) : AOper:=⟨some d,.faddr i (.t x),none,[]⟩
abbrev aE (d x i : Nat) : AOper:=⟨some d,.extract (.t x) i,none,[]⟩
abbrev aS (l : List AOper) (c : ACode) : ACode:=.seq (.reg false l) c
abbrev aI (n : Int) : Opd:=.c (.int .i64 n)
def A.when (p : Bool) (x : A) : A:=if p = true then x else .tup []
theorem when_t (x : A) : A.when true x = x:=rfl
theorem when_f (x : A) : A.when false x = .tup []:=rfl
theorem pk_and (c x : Bool) : (if c = true then A.when c (.bool x) else .bool false) = .bool (c && x):=by cases c <;> rfl
theorem pk_or (c x : Bool) : (if c = true then A.bool true else A.when (!c) (.bool x)) = .bool (c || x):=by cases c <;> rfl
section
variable {P : Program} {G : World → Prop} {m i : Nat} {fl : List Bool} {d : Option Nat} {af : List Nat} {os : List AOper} {past : List Hp} {obs : Obs} {K : Ts → Hp → Prop} {ts : Ts} {h : Hp}
def gok (p c b : Bool) : Bool:=p && (c == b)
theorem gok_t (p c : Bool) : gok p c true = (p && c):=by cases c <;> rfl
theorem gok_f (p c : Bool) : gok p c false = (p && !c):=by cases c <;> rfl
theorem guard_when {t : Nat} {b p c : Bool} {X Y : Prop} (hg : ts t = A.when p (.bool c)) (hx : gok p c b = true → X) (hy : gok p c b = false → Y) : guardP ts (some (t,b)) X Y:=by
 simp only [guardP,hg]
 cases p with
 | false => exact hy rfl
 | true =>
  refine ⟨fun e => hx ?_,fun e => hy ?_⟩
  ·subst e; cases c <;> rfl
  ·subst e; cases b <;> rfl
theorem gw_op0 {o : AOp} {t : Nat} {b p c : Bool} {v : A} (hob : obs = []) (hc : o.isCall = false) (hg : ts t = A.when p (.bool c)) (hs : gok p c b = true → astep (evX ts) h o = some (v,h)) (k : aseq P G 0 0 [] os [] [] K (put ts d (A.when (gok p c b) v)) h) : aseq P G 0 i fl (⟨d,o,some (t,b),af⟩ :: os) past obs K ts h:=by
 subst hob
 have hact : actB 0 o = true:=by cases o <;> rfl
 refine ⟨A.when (gok p c b) v,h,guard_when hg (fun e => ?_) (fun e => ?_),.inl hact,?_⟩
 ·rw [e]; exact aopP_of hc (hs e)
 ·rw [e]; exact ⟨rfl,rfl⟩
 ·rw [if_pos hact]; exact ⟨trivial,aseq0_any k⟩
theorem gw_op {o : AOp} {t : Nat} {b p c : Bool} {v : A} (ha : actB m o = false) (hf : fl.headD false = false) (hc : o.isCall = false) (hg : ts t = A.when p (.bool c)) (hs : gok p c b = true → astep (evX ts) h o = some (v,h)) (k : aseq P G m (i + 1) fl.tail os past obs K (put ts d (A.when (gok p c b) v)) h) : aseq P G m i fl (⟨d,o,some (t,b),af⟩ :: os) past obs K ts h:=by
 refine ⟨A.when (gok p c b) v,h,guard_when hg (fun e => ?_) (fun e => ?_),.inr rfl,?_⟩
 ·rw [e]; exact aopP_of hc (hs e)
 ·rw [e]; exact ⟨rfl,rfl⟩
 ·rw [if_neg (by simp [ha]),if_neg (by simp only [hf]; simp)]; exact k
structure CallW (P : Program) (G : World → Prop) (p : Bool) (f : FuncId) (vs : List A) (h : Hp) (k : A → Prop) : Prop where
 out : ∃ v,(p = true → ACall P G f vs h fun v' h'' => v' = v ∧ h'' = h) ∧ k v
theorem gw_call0 {t : Nat} {b p c : Bool} {f : FuncId} {as : List Opd} {vs : List A} (hob : obs = []) (hg : ts t = A.when p (.bool c)) (ha : gok p c b = true → as.map (evX ts) = vs) (k : CallW P G (gok p c b) f vs h fun v => aseq P G 0 0 [] os [] [] K (put ts d (A.when (gok p c b) v)) h) : aseq P G 0 i fl (⟨d,.call f as,some (t,b),af⟩ :: os) past obs K ts h:=by
 subst hob
 obtain ⟨v,h1,h2⟩:=k.out
 refine ⟨A.when (gok p c b) v,h,guard_when hg (fun e => ?_) (fun e => ?_),.inl rfl,?_⟩
 ·rw [e]
  show ACall P G f (as.map (evX ts)) h _
  rw [ha e]; exact h1 e
 ·rw [e]; exact ⟨rfl,rfl⟩
 ·have e2 : actB 0 (.call f as) = true:=rfl
  rw [if_pos e2]; exact ⟨trivial,aseq0_any h2⟩
theorem gw_call2 {t : Nat} {b p c : Bool} {f : FuncId} {as : List Opd} {vs : List A} (hf : fl.headD false = false) (hg : ts t = A.when p (.bool c)) (ha : gok p c b = true → as.map (evX ts) = vs) (k : CallW P G (gok p c b) f vs h fun v => aseq P G 2 (i + 1) fl.tail os past obs K (put ts d (A.when (gok p c b) v)) h) : aseq P G 2 i fl (⟨d,.call f as,some (t,b),af⟩ :: os) past obs K ts h:=by
 obtain ⟨v,h1,h2⟩:=k.out
 refine ⟨A.when (gok p c b) v,h,guard_when hg (fun e => ?_) (fun e => ?_),.inr rfl,?_⟩
 ·rw [e]
  show ACall P G f (as.map (evX ts)) h _
  rw [ha e]; exact h1 e
 ·rw [e]; exact ⟨rfl,rfl⟩
 ·have e2 : actB 2 (.call f as) = false:=rfl
  rw [if_neg (by simp [e2]),if_neg (by simp only [hf]; simp)]; exact h2
theorem usew {p : Bool} {f : FuncId} {vs : List A} {k : A → Prop} {v : A} (hc : ACall P G f vs h fun v' h'' => v' = v ∧ h'' = h) (hk : k v) : CallW P G p f vs h k:=⟨v,fun _ => hc,hk⟩
end
end AX
end Go.Proofs.YteklhoajalgehaaGreatDoor
