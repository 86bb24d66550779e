/- The card JournalDamageUptoCardSaid: the law returns true, and its arguments read as they did; from its walk in abstract memory. -/
import Derived.Test.YtahmpiioegemaaaGreatDoorMFrJournalDamageUptoL
import Derived.Test.YtahmpiioegemaaaGreatDoorMFrJournalDamageUptoW
import Derived.Carry
namespace Go.Proofs.YtahmpiioegemaaaGreatDoor.journalDamage
open Go.ChangeShapes Go.WideShapes Go.ChangeAt Go.RowKit AX
open Go.ChangeMaps (open_string shut_string)
theorem laidOut:laidOutB Tryz.prog=true:=by kernel_rfl
set_option maxRecDepth 100000 in
theorem contract (H:Type) (enc:TypeId×Value→H) (W:World) (base:Nat) (args:Array Value) (ds gs:List (DataW H)) (before:List MemPlace)
  (hval0:∀ (j:Nat) t v,Tryz.f7.params[j]?=some t→args[j]?=some v→Value.okWide Tryz.prog W .any base t v)
  (hW:DataW.Whole enc Tryz.prog Tryz.f7.params.toList Rows.journalDamageSpec.vars false W args.toList ds gs before) (g:GT W) (hk:Rows.uptoSmall H (ds++gs)=true) :
  Calls Tryz.prog 7 args W fun e W'=>∃ v,e = .returned v∧Rows.journalDamageSpec.post enc Tryz.prog Tryz.f7 false true false false W args v W':=by
 have hval:∀ (j:Nat) t v,Tryz.f7.params[j]?=some t→args[j]?=some v→Value.okWide Tryz.prog W .any base t v:=hval0
 have hW':=hW
 obtain ⟨p,q,hA0,hV,rfl,hfz,hnd⟩:=hW
 have hA:DataW.TrodAll enc Tryz.prog W 0 (fun _=>true) true Tryz.f7.params.toList args.toList ds p:=hA0
 rw [Tryz.params7] at hA hval
 obtain ⟨v0,vs0,d0,ds0,p0,q0,hargs,rfl,rfl,h0,r0⟩:=trodAll_cons hA
 obtain ⟨v1,vs1,d1,ds1,p1,q1,rfl,rfl,rfl,h1,r1⟩:=trodAll_cons r0
 obtain ⟨v2,vs2,d2,ds2,p2,q2,rfl,rfl,rfl,h2,r2⟩:=trodAll_cons r1
 obtain ⟨v3,vs3,d3,ds3,p3,q3,rfl,rfl,rfl,h3,r3⟩:=trodAll_cons r2
 obtain ⟨rfl,rfl,rfl⟩:=trodAll_nil r3
 obtain rfl:args=#[v0,v1,v2,v3]:=by cases args; simp_all
 obtain ⟨rfl,rfl⟩:=trodVars_none hV
 have m0:=h0
 have lt0:∀ x∈p0,x.block < W.heap.size:=by obtain ⟨m,hm⟩:=m0; exact DataW.trod_lt m _ _ _ hm
 obtain ⟨x0,k0,e0⟩:=arg_conf_jrs (hval 0 43 v0 rfl rfl) h0
 obtain ⟨n1,rfl,rfl,rfl,k1⟩:=open_int (k:=.u8) Tryz.underlying5 (hval 1 5 v1 rfl rfl) h1
 obtain ⟨n2,rfl,rfl,rfl,k2⟩:=open_int (k:=.u16) Tryz.underlying55 (hval 2 55 v2 rfl rfl) h2
 obtain ⟨n3,rfl,rfl,rfl,k3⟩:=open_int (k:=.u32) Tryz.underlying60 (hval 3 60 v3 rfl rfl) h3
 simp only [List.append_nil] at hk
 have hkb:=of_decide_eq_true hk
 simp only [Rows.uptoBulkAll] at hkb
 have kb0:=AX.ai k0.1 (show x0.bulkD≤1048576 from Nat.le_trans k0.2 (by omega))
 clear hA0 hval0
 try simp only [List.append_nil] at hW'
 refine (calls_of (w_damageX x0 kb0 n1 k1 n2 k2 n3 k3) (gt_keep g) (repL_cons.2 ⟨_,_,rfl,e0,repL_cons.2 ⟨_,_,rfl,rep_int.2 rfl,repL_cons.2 ⟨_,_,rfl,rep_int.2 rfl,repL_cons.2 ⟨_,_,rfl,rep_int.2 rfl,repL_nil.2 rfl⟩⟩⟩⟩)).mono fun e W' ⟨he,bel⟩=>?_
 subst he
 exact ⟨_,rfl,_,_,_,[],_,[],hW',trodAll_mk1 (shut_bool Tryz.underlying4 _),(trodAll_cons_mk (Below.trod laidOut (by kernel_rfl) (of_decide_eq_true (by kernel_rfl)) m0 bel lt0) (trodAll_cons_mk (shut_int Tryz.underlying5 k1) (trodAll_cons_mk (shut_int Tryz.underlying55 k2) (trodAll_cons_mk (shut_int Tryz.underlying60 k3) trodAll_mk0)))),rfl,bel.frame _,fun h=>by cases h⟩
theorem reads (os:Os) {H:Type} (enc:TypeId×Value→H):∃ places,DataW.whole enc Tryz.prog ((Card.laidWorld os #[.slice none 0 0,.int .u8 0,.int .u16 0,.int .u32 0]).forCall (fun _ _=>0) ⟨#[],#[.slice none 0 0,.int .u8 0,.int .u16 0,.int .u32 0],[]⟩).memory Tryz.f7.params.toList Rows.journalDamageSpec.vars false #[Value.slice none 0 0,Value.int .u8 0,Value.int .u16 0,Value.int .u32 0].toList 8=some ([.nil,.lit (.int .u8 0),.lit (.int .u16 0),.lit (.int .u32 0)],[],places):=
 ⟨[],by kernel_rfl⟩
theorem met (os:Os):laidMet Tryz.prog Rows.journalDamageUptoRow.laid ((Card.laidWorld os #[.slice none 0 0,.int .u8 0,.int .u16 0,.int .u32 0]).forCall (fun _ _=>0) ⟨#[],#[.slice none 0 0,.int .u8 0,.int .u16 0,.int .u32 0],[]⟩).memory:=
 laidMet_of_run' 8 (by kernel_rfl) (by kernel_rfl)
set_option maxRecDepth 100000 in
theorem lifted (os:Os) (started:os.Started) (H:Type) (enc:TypeId×Value→H) (F:Stop.Interp) :
  ReturnsInHanded {} Tryz.checked os 7 .any ((Rows.OpenSpec.upto Rows.journalDamageSpec).preRow enc Tryz.prog Tryz.f7 Rows.journalDamageUptoRow.domain false Rows.journalDamageUptoRow.laid) (((Rows.OpenSpec.upto Rows.journalDamageSpec).at F).post enc Tryz.prog Tryz.f7 false true false false):=by
 obtain ⟨places,hx⟩:=reads os enc
 refine returnsInHanded_of_row (C:=Tryz.checked) (s:=Rows.OpenSpec.upto Rows.journalDamageSpec) Card.own started (by kernel_rfl) Tryz.func7
  (witness_row_at (enc:=enc) (C:=Tryz.checked) false (Card.laidWorld os #[.slice none 0 0,.int .u8 0,.int .u16 0,.int .u32 0]) #[.slice none 0 0,.int .u8 0,.int .u16 0,.int .u32 0] rfl (by kernel_rfl) (by kernel_rfl) (by kernel_rfl)
   (OpenSpec.preRow_of_cond 8 hx (by kernel_rfl) (fun k hk=>by cases hk; kernel_rfl) (by kernel_rfl) (met os))) ?_
 intro W base args ds gs before hval hW _ hcond _ hL hS _
 exact contract H enc W base args ds gs before hval hW (Card.gt_of hL) (hcond _ rfl)
theorem and_of {a b:Bool} (h:a=true) (k:b=true):(a&&b)=true:=by rw [h,k]; rfl
theorem c1:Tryz.pinned.checked.prog.funcNamed Rows.journalDamageUptoRow.func=some 7:=by kernel_rfl
set_option maxHeartbeats 4000000 in
set_option maxRecDepth 100000 in
theorem c2:joinedFacts Tryz.pinned.checked.prog 7 Tryz.f7 (Rows.OpenSpec.upto Rows.journalDamageSpec).bare Rows.journalDamageUptoRow=true:=by
 unfold joinedFacts
 repeat' (with_reducible refine and_of ?_ ?_)
 all_goals (as_aux_lemma=>kernel_rfl)
theorem c3:Tryz.f7.isInstance Tryz.pinned.checked.prog Rows.journalDamageUptoRow.origin Rows.journalDamageUptoRow.targs:=of_decide_eq_true (by kernel_rfl)
theorem c4:Tryz.f7.isWrapper Tryz.pinned.checked.prog Rows.journalDamageUptoRow.wrapper Rows.journalDamageUptoRow.mainSum:=by unfold Func.isWrapper; first | (rw [if_pos (by decide +kernel)]; kernel_rfl) | (rw [if_neg (by decide +kernel)]; exact ⟨rfl,rfl⟩)
theorem c5:true=Tryz.pinned.checked.prog.looks []:=by kernel_rfl
theorem said:Rows.JournalDamageUptoSaid:=
 OpenClaim.holds_of_cond 7 Tryz.f7 rfl rfl rfl rfl rfl rfl rfl ⟨rfl,rfl,rfl,rfl,rfl⟩ rfl rfl rfl rfl rfl c1 Tryz.func7 c2 c3 c4
  (fun os started H enc _ F=>by rw [OpenClaim.pre_eq_preRow]; exact lifted os started H enc F)
theorem plain (f : FuncId) (fn : Func) (hf : Tryz.pinned.checked.prog.funcNamed "provision/provisionlaw35.JournalDamage" = some f) (hfn : Tryz.pinned.checked.prog.funcs[f]? = some fn) :
  true=Tryz.pinned.checked.prog.looks []∧∀ (j:Nat) t,fn.params[j]?=some t→Tryz.pinned.checked.prog.wantsStandIn t=false:=by
 obtain rfl : f = 7 := Option.some.inj ((show Tryz.prog.funcNamed "provision/provisionlaw35.JournalDamage" = some 7 by kernel_rfl).symm.trans hf) |>.symm
 obtain rfl:fn=Tryz.f7:=(Option.some.inj (Tryz.func7.symm.trans hfn)).symm
 refine ⟨c5,fun j t ht=>?_⟩
 rw [Tryz.params7] at ht
 have ht:=Array.mem_of_getElem? ht
 have hc:t=43∨t=5∨t=55∨t=60:=by simpa using ht
 rcases hc with rfl | rfl | rfl | rfl
 ·exact (show Tryz.prog.wantsStandIn 43=false by kernel_rfl)
 ·exact (show Tryz.prog.wantsStandIn 5=false by kernel_rfl)
 ·exact (show Tryz.prog.wantsStandIn 55=false by kernel_rfl)
 ·exact (show Tryz.prog.wantsStandIn 60=false by kernel_rfl)
theorem c6:Rows.journalDamageUptoRow.wfByText (Rows.OpenSpec.upto Rows.journalDamageSpec)=true:=by kernel_rfl
theorem c7:false=Rows.journalDamageUptoRow.goesBy Tryz.pinned.checked.prog:=by kernel_rfl
theorem proved:Rows.JournalDamageUptoCardSaid:=
 Claim7.holds_tied_plain_at .later [] _ _ _ _ said (fun _ h=>by cases h) c6 (fun _ h=>by cases h) journalDamageUpto_row_tie rfl ⟨rfl,rfl⟩ (by as_aux_lemma=>kernel_rfl) rfl plain c7
end Go.Proofs.YtahmpiioegemaaaGreatDoor.journalDamage
