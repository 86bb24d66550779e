/- The card WorkspaceCallsCardSaid: the law returns true, and its arguments read as they did; from its walk in abstract memory. -/
import Derived.Test.YthhpocnmfknalaaGreatDoorMFrWorkspaceCallsN
import Derived.Test.YthhpocnmfknalaaGreatDoorMFrWorkspaceCallsZ
import Derived.Carry
namespace Go.Proofs.YthhpocnmfknalaaGreatDoor.workspaceCalls
open Go.ChangeShapes Go.WideShapes Go.ChangeAt Go.RowKit AX
open Go.ChangeMaps (open_string shut_string)
theorem laidOut:laidOutB Tryz.prog=true:=by kernel_rfl
set_option maxRecDepth 100000 in
theorem contract (H:Type) (enc:TypeId×Value→H) (W:World) (base:Nat) (args:Array Value) (ds gs:List (DataW H)) (before:List MemPlace)
  (hval0:∀ (j:Nat) t v,Tryz.f6.params[j]?=some t→args[j]?=some v→Value.okWide Tryz.prog W .any base t v)
  (hW:DataW.Whole enc Tryz.prog Tryz.f6.params.toList Rows.workspaceCallsSpec.vars false W args.toList ds gs before) (g:GT W) :
  Calls Tryz.prog 6 args W fun e W'=>∃ v,e = .returned v∧Rows.workspaceCallsSpec.post enc Tryz.prog Tryz.f6 false true false false W args v W':=by
 have hval:∀ (j:Nat) t v,Tryz.f6.params[j]?=some t→args[j]?=some v→Value.okWide Tryz.prog W .any base t v:=hval0
 have hW':=hW
 obtain ⟨p,q,hA0,hV,rfl,hfz,hnd⟩:=hW
 have hA:DataW.TrodAll enc Tryz.prog W 0 (fun _=>true) true Tryz.f6.params.toList args.toList ds p:=hA0
 rw [Tryz.params6] at hA hval
 obtain ⟨v0,vs0,d0,ds0,p0,q0,hargs,rfl,rfl,h0,r0⟩:=trodAll_cons hA
 obtain ⟨v1,vs1,d1,ds1,p1,q1,rfl,rfl,rfl,h1,r1⟩:=trodAll_cons r0
 obtain ⟨v2,vs2,d2,ds2,p2,q2,rfl,rfl,rfl,h2,r2⟩:=trodAll_cons r1
 obtain ⟨rfl,rfl,rfl⟩:=trodAll_nil r2
 obtain rfl:args=#[v0,v1,v2]:=by cases args; simp_all
 obtain ⟨rfl,rfl⟩:=trodVars_none hV
 obtain ⟨a0,rfl,rfl,rfl,k0⟩:=open_string Tryz.underlying9 (hval 0 9 v0 rfl rfl) h0
 have m1:=h1
 have lt1:∀ x∈p1,x.block < W.heap.size:=by obtain ⟨m,hm⟩:=m1; exact DataW.trod_lt m _ _ _ hm
 obtain ⟨x1,k1,e1⟩:=ayr (hval 1 26 v1 rfl rfl) h1
 obtain ⟨a2,rfl,rfl,rfl,k2⟩:=open_string Tryz.underlying9 (hval 2 9 v2 rfl rfl) h2
 clear hA0 hval0
 try simp only [List.append_nil] at hW'
 refine (ckn (cwd a0.data.toList k0 x1 k1 a2.data.toList k2) (cqk g) (repL_cons.2 ⟨_,_,rfl,rep_str.2 (bwp a0),repL_cons.2 ⟨_,_,rfl,e1,repL_cons.2 ⟨_,_,rfl,rep_str.2 (bwp a2),azp.2 rfl⟩⟩⟩)).mono fun e W' ⟨he,bel⟩=>?_
 subst he
 exact ⟨_,rfl,_,_,_,[],_,[],hW',trodAll_mk1 (shut_bool Tryz.underlying4 _),(trodAll_cons_mk (shut_string Tryz.underlying9 k0) (trodAll_cons_mk (Below.trod laidOut (by kernel_rfl) (of_decide_eq_true (by kernel_rfl)) m1 bel lt1) (trodAll_cons_mk (shut_string Tryz.underlying9 k2) trodAll_mk0))),rfl,bel.frame _,fun h=>by cases h⟩
theorem reads (os:Os) {H:Type} (enc:TypeId×Value→H):∃ places,DataW.whole enc Tryz.prog ((Card.laidWorld os #[.string ByteArray.empty,.slice none 0 0,.string ByteArray.empty]).forCall (fun _ _=>0) ⟨#[],#[.string ByteArray.empty,.slice none 0 0,.string ByteArray.empty],[]⟩).memory Tryz.f6.params.toList Rows.workspaceCallsSpec.vars false #[Value.string ByteArray.empty,Value.slice none 0 0,Value.string ByteArray.empty].toList 8=some ([.lit (.string []),.nil,.lit (.string [])],[],places):=
 ⟨[],by kernel_rfl⟩
theorem met (os:Os):laidMet Tryz.prog Rows.workspaceCallsRow.laid ((Card.laidWorld os #[.string ByteArray.empty,.slice none 0 0,.string ByteArray.empty]).forCall (fun _ _=>0) ⟨#[],#[.string ByteArray.empty,.slice none 0 0,.string ByteArray.empty],[]⟩).memory:=
 laidMet_of_run' 8 (by kernel_rfl) (by kernel_rfl)
set_option maxRecDepth 100000 in
theorem lifted (os:Os) (started:os.Started) (H:Type) (enc:TypeId×Value→H) (F:Stop.Interp) :
  ReturnsInHanded {} Tryz.checked os 6 .any ((OpenSpec.ofChange Rows.workspaceCallsSpec).preRow enc Tryz.prog Tryz.f6 Rows.workspaceCallsRow.domain false Rows.workspaceCallsRow.laid) (((OpenSpec.ofChange Rows.workspaceCallsSpec).at F).post enc Tryz.prog Tryz.f6 false true false false):=by
 obtain ⟨places,hx⟩:=reads os enc
 refine returnsInHanded_of_row (C:=Tryz.checked) (s:=OpenSpec.ofChange Rows.workspaceCallsSpec) Card.own started (by kernel_rfl) Tryz.func6
  (witness_row_at (enc:=enc) (C:=Tryz.checked) false (Card.laidWorld os #[.string ByteArray.empty,.slice none 0 0,.string ByteArray.empty]) #[.string ByteArray.empty,.slice none 0 0,.string ByteArray.empty] rfl (by kernel_rfl) (by kernel_rfl) (by kernel_rfl)
   (OpenSpec.preRow_of_cond 8 hx (by kernel_rfl) (fun k hk=>by cases hk) (by kernel_rfl) (met os))) ?_
 intro W base args ds gs before hval hW _ _ _ hL hS _
 exact contract H enc W base args ds gs before hval hW (Card.gt_of hL)
theorem and_of {a b:Bool} (h:a=true) (k:b=true):(a&&b)=true:=by rw [h,k]; rfl
theorem c1:Tryz.pinned.checked.prog.funcNamed Rows.workspaceCallsRow.func=some 6:=by kernel_rfl
set_option maxHeartbeats 4000000 in
set_option maxRecDepth 100000 in
theorem c2:joinedFacts Tryz.pinned.checked.prog 6 Tryz.f6 (OpenSpec.ofChange Rows.workspaceCallsSpec).bare Rows.workspaceCallsRow=true:=by
 unfold joinedFacts
 repeat' (with_reducible refine and_of ?_ ?_)
 all_goals (as_aux_lemma=>kernel_rfl)
theorem c3:Tryz.f6.isInstance Tryz.pinned.checked.prog Rows.workspaceCallsRow.origin Rows.workspaceCallsRow.targs:=of_decide_eq_true (by kernel_rfl)
theorem c4:Tryz.f6.isWrapper Tryz.pinned.checked.prog Rows.workspaceCallsRow.wrapper Rows.workspaceCallsRow.mainSum:=by unfold Func.isWrapper; first | (rw [if_pos (by decide +kernel)]; kernel_rfl) | (rw [if_neg (by decide +kernel)]; exact ⟨rfl,rfl⟩)
theorem c5:true=Tryz.pinned.checked.prog.looks []:=by kernel_rfl
theorem said:Rows.WorkspaceCallsSaid:=
 OpenClaim.holds_of_cond 6 Tryz.f6 rfl rfl rfl rfl rfl rfl rfl ⟨rfl,rfl,rfl,rfl,rfl⟩ rfl rfl rfl rfl rfl c1 Tryz.func6 c2 c3 c4
  (fun os started H enc _ F=>by rw [OpenClaim.pre_eq_preRow]; exact lifted os started H enc F)
theorem plain (f : FuncId) (fn : Func) (hf : Tryz.pinned.checked.prog.funcNamed "provision/provisionlaw51.WorkspaceCalls" = some f) (hfn : Tryz.pinned.checked.prog.funcs[f]? = some fn) :
  true=Tryz.pinned.checked.prog.looks []∧∀ (j:Nat) t,fn.params[j]?=some t→Tryz.pinned.checked.prog.wantsStandIn t=false:=by
 obtain rfl : f = 6 := Option.some.inj ((show Tryz.prog.funcNamed "provision/provisionlaw51.WorkspaceCalls" = some 6 by kernel_rfl).symm.trans hf) |>.symm
 obtain rfl:fn=Tryz.f6:=(Option.some.inj (Tryz.func6.symm.trans hfn)).symm
 refine ⟨c5,fun j t ht=>?_⟩
 rw [Tryz.params6] at ht
 have ht:=Array.mem_of_getElem? ht
 have hc:t=9∨t=26:=by first | simpa using ht | (simp at ht; rcases ht with h | h | h <;> simp [h])
 rcases hc with rfl | rfl
 ·exact (show Tryz.prog.wantsStandIn 9=false by kernel_rfl)
 ·exact (show Tryz.prog.wantsStandIn 26=false by kernel_rfl)
theorem c6:Rows.workspaceCallsRow.wfByText (OpenSpec.ofChange Rows.workspaceCallsSpec)=true:=by kernel_rfl
theorem c7:false=Rows.workspaceCallsRow.goesBy Tryz.pinned.checked.prog:=by kernel_rfl
theorem proved:Rows.WorkspaceCallsCardSaid:=
 Claim7.holds_tied_plain_at .later [] _ _ _ _ said (fun _ h=>by cases h) c6 (fun _ h=>by cases h) workspaceCalls_row_tie rfl ⟨rfl,rfl⟩ (by as_aux_lemma=>kernel_rfl) rfl plain c7
end Go.Proofs.YthhpocnmfknalaaGreatDoor.workspaceCalls
