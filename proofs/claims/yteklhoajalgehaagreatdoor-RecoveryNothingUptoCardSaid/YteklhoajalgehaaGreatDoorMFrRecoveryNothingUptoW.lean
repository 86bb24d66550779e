/- Part of what the proof needs. -/
import Derived.Test.YteklhoajalgehaaGreatDoorMFrRecoveryNothingUptoM
import Derived.Test.YteklhoajalgehaaGreatDoorMFrRecoveryNothingUptoR
import Derived.Test.YteklhoajalgehaaGreatDoorMFrRecoveryNothingUptoU
import Derived.Test.YteklhoajalgehaaGreatDoorMFrRecoveryNothingUptoV
set_option maxHeartbeats 4000000
set_option linter.unusedSimpArgs false
set_option linter.unusedVariables false
set_option linter.unnecessarySimpa false
namespace Go.Proofs.YteklhoajalgehaaGreatDoor
open Go.RowKit
theorem clone_strs_nil (w : World) : Calls Tryz.prog 195 #[.slice none 0 0] w fun e w' => e = .returned (.slice none 0 0) ∧ Below w.heap.size w w':=by
 have q22 : ∀ (w : World) (a : Option Addr) (n c n' c' : Nat),(binOp .eql 30 (.slice a n c) (.slice none n' c')).run Tryz.prog w = .ok (.bool a.isNone) w:=fun w a n c n' c' => Lib.run_eql_slice_nil w _ _ a n c n' c' Tryz.underlying30
 have u22 : ∀ w,Sem.run Tryz.prog (underlying 30) w = .ok (TypeDesc.slice 9) w:=run_underlying Tryz.underlying30
 go_enter Tryz.func195,Tryz.ntmps195
 go_wp2
 go_ret
 exact ⟨rfl,Below.refl _ _⟩
theorem AX.a_clone_strs_nil (W : Nat) (h : AX.Hp) : AX.ACall Tryz.prog GT 195 [.sl W .nil []] h fun v h' => v = .sl 0 .nil [] ∧ h' = h:=by
 intro C es hI ha
 obtain ⟨c,es',rfl,h1,h2⟩:=AX.repL_cons.1 ha
 rw [AX.repL_nil] at h2; subst h2
 obtain ⟨a,cap,rfl,_,_,hn⟩:=AX.rep_sl.1 h1
 obtain ⟨rfl,rfl,_⟩:=hn
 refine (clone_strs_nil C.w).mono ?_
 rintro e w' ⟨rfl,hb⟩
 obtain ⟨i1,s1⟩:=AX.inv_below hI hb
 exact ⟨C.at w',h,.sl 0 .nil [],_,rfl,rfl,i1,s1,AX.rep_sl.2 ⟨none,0,rfl,Nat.le_refl _,by unfold AX.RepRows; trivial,rfl,rfl,rfl⟩,rfl,rfl⟩
theorem clone_pend_nil (w : World) : Calls Tryz.prog 128 #[.slice none 0 0] w fun e w' => e = .returned (.slice none 0 0) ∧ Below w.heap.size w w':=by
 have q22 : ∀ (w : World) (a : Option Addr) (n c n' c' : Nat),(binOp .eql 36 (.slice a n c) (.slice none n' c')).run Tryz.prog w = .ok (.bool a.isNone) w:=fun w a n c n' c' => Lib.run_eql_slice_nil w _ _ a n c n' c' Tryz.underlying36
 have u22 : ∀ w,Sem.run Tryz.prog (underlying 36) w = .ok (TypeDesc.slice 121) w:=run_underlying Tryz.underlying36
 go_enter Tryz.func128,Tryz.ntmps128
 go_wp2
 go_ret
 exact ⟨rfl,Below.refl _ _⟩
theorem AX.a_clone_pend_nil (W : Nat) (h : AX.Hp) : AX.ACall Tryz.prog GT 128 [.sl W .nil []] h fun v h' => v = .sl 0 .nil [] ∧ h' = h:=by
 intro C es hI ha
 obtain ⟨c,es',rfl,h1,h2⟩:=AX.repL_cons.1 ha
 rw [AX.repL_nil] at h2; subst h2
 obtain ⟨a,cap,rfl,_,_,hn⟩:=AX.rep_sl.1 h1
 obtain ⟨rfl,rfl,_⟩:=hn
 refine (clone_pend_nil C.w).mono ?_
 rintro e w' ⟨rfl,hb⟩
 obtain ⟨i1,s1⟩:=AX.inv_below hI hb
 exact ⟨C.at w',h,.sl 0 .nil [],_,rfl,rfl,i1,s1,AX.rep_sl.2 ⟨none,0,rfl,Nat.le_refl _,by unfold AX.RepRows; trivial,rfl,rfl,rfl⟩,rfl,rfl⟩
theorem clone_outp_nil (w : World) : Calls Tryz.prog 255 #[.slice none 0 0] w fun e w' => e = .returned (.slice none 0 0) ∧ Below w.heap.size w w':=by
 have q22 : ∀ (w : World) (a : Option Addr) (n c n' c' : Nat),(binOp .eql 37 (.slice a n c) (.slice none n' c')).run Tryz.prog w = .ok (.bool a.isNone) w:=fun w a n c n' c' => Lib.run_eql_slice_nil w _ _ a n c n' c' Tryz.underlying37
 have u22 : ∀ w,Sem.run Tryz.prog (underlying 37) w = .ok (TypeDesc.slice 132) w:=run_underlying Tryz.underlying37
 go_enter Tryz.func255,Tryz.ntmps255
 go_wp2
 go_ret
 exact ⟨rfl,Below.refl _ _⟩
theorem AX.a_clone_outp_nil (W : Nat) (h : AX.Hp) : AX.ACall Tryz.prog GT 255 [.sl W .nil []] h fun v h' => v = .sl 0 .nil [] ∧ h' = h:=by
 intro C es hI ha
 obtain ⟨c,es',rfl,h1,h2⟩:=AX.repL_cons.1 ha
 rw [AX.repL_nil] at h2; subst h2
 obtain ⟨a,cap,rfl,_,_,hn⟩:=AX.rep_sl.1 h1
 obtain ⟨rfl,rfl,_⟩:=hn
 refine (clone_outp_nil C.w).mono ?_
 rintro e w' ⟨rfl,hb⟩
 obtain ⟨i1,s1⟩:=AX.inv_below hI hb
 exact ⟨C.at w',h,.sl 0 .nil [],_,rfl,rfl,i1,s1,AX.rep_sl.2 ⟨none,0,rfl,Nat.le_refl _,by unfold AX.RepRows; trivial,rfl,rfl,rfl⟩,rfl,rfl⟩
namespace AX
theorem a_clone_rows (o : Own) (rows : List (List A)) (h0 : rows ≠ []) (hn : rows.length ≤ 1000000000) (hW : ∀ r ∈ rows,r.length = 3) (hd : rows.flatten.all A.data = true) (h : Hp) :
  ACall Tryz.prog GT 128 [.sl 3 .no rows] h fun v h' => v = .sl 3 .no rows ∧ h' = h:=by
 refine pcallv (ACall.mono (a_clone_pend .no rows h0 (by omega) (by unfold maxLen; omega) ⟨[],[]⟩) ?_) (by simp [A.pure,A.data]) h
 rintro v h' ⟨rfl,rfl⟩
 exact .one (.inr ⟨0,3,_,rows,rfl,rfl,rfl,hW,hd⟩)
def nilB : Own → Bool
 | .nil => true
 | _ => false
theorem nilB_ok {o : Own} (h : nilB o = true) : o = .nil:=by cases o <;> first | rfl | cases h
def eNil (f : FuncId) (ok : ∀ W h,ACall Tryz.prog GT f [.sl W .nil []] h fun v h' => v = .sl 0 .nil [] ∧ h' = h) : EntL where
 f:=f
 run avs h:=match avs with
  | [.sl W0 o []] => gate (nilB o) (.sl 0 .nil [])
  | _ => none
 ok avs h v oh e:=by
  split at e
  ·obtain ⟨h1,rfl,rfl⟩:=gate_ok e
   rw [nilB_ok h1]
   exact ok _ _
  ·cases e
def noB : Own → Bool
 | .no => true
 | _ => false
theorem noB_ok {o : Own} (h : noB o = true) : o = .no:=by cases o <;> first | rfl | cases h
def rowsB (rows : List (List A)) : Bool:=(rows.all fun r => Nat.beq r.length 3) && Nat.ble rows.length 1000 && rows.flatten.all A.data
def ePend : EntL where
 f:=128
 run avs h:=match avs with
  | [.sl W0 o []] => gate (nilB o) (.sl 0 .nil [])
  | [.sl 3 o (r :: rows)] => gate (noB o && rowsB (r :: rows)) (.sl 3 .no (r :: rows))
  | _ => none
 ok avs h v oh e:=by
  split at e
  ·obtain ⟨h1,rfl,rfl⟩:=gate_ok e
   rw [nilB_ok h1]
   exact a_clone_pend_nil _ _
  ·obtain ⟨h1,rfl,rfl⟩:=gate_ok e
   rw [Bool.and_eq_true] at h1
   rw [noB_ok h1.1]
   unfold rowsB at h1
   simp only [Bool.and_eq_true] at h1
   exact a_clone_rows .no _ (by simp) (by have:=Nat.le_of_ble_eq_true h1.2.1.2; omega) (fun x hx => Nat.eq_of_beq_eq_true (List.all_eq_true.1 h1.2.1.1 x hx)) h1.2.2 _
  ·cases e
def libR0 : List EntL:=eNil 195 a_clone_strs_nil :: ePend :: eNil 255 a_clone_outp_nil :: libL
noncomputable def wkE (f : FuncId) (avs : List A) (h : EH) : Option (A × Option EH):=callE libR0 [98,64] (ev libR0 [98,64] 100000) f (avs.map wk2) h
noncomputable def eWk (f : FuncId) : EntL where
 f:=f
 run avs h:=wkE f avs h
 ok avs h v oh e:=ACall.args (leL2_wk avs) (callE_ok mixedT (ev_ok mixedT libR0 _ 100000) e)
noncomputable def libR : List EntL:=eWk 38 :: libR0
theorem aw50 (h : Hp) : ACall Tryz.prog GT 37 [] h fun r h' => r = .bool true ∧ h' = h:=
 pcall (eval (tab:=tabL) mixedT libR [98,64] 100000 (h:=⟨[],[]⟩) (by kernel_rfl)) rfl rfl h
end AX
end Go.Proofs.YteklhoajalgehaaGreatDoor

namespace Go.Proofs.YteklhoajalgehaaGreatDoor
open Go.RowKit Go.ChangeShapes Go.WideShapes
def Sf.St.bulkD (s : Sf.St) : Nat:=s.toD.bulk
namespace AX
def kState : List TypeId:=[39,73,121,132,35,36,37,71,68,3,9,4,69,30]
theorem kState_plain : plainAll Tryz.prog kState = true:=by kernel_rfl
section
variable {H : Type} {enc : TypeId × Value → H} {w : World} {base : Nat} {spare : Nat → Bool} {held : Bool} {r : Reach} {b0 : Nat} {v : Value} {d : DataW H} {p : List MemPlace}
set_option maxRecDepth 100000 in
theorem arg_dataB {K : List TypeId} {t : TypeId} {fs : Array Field} (hK : plainAll Tryz.prog K = true) (ht : t ∈ K) (hu : Tryz.prog.underlying t = some (.struct fs)) (hval : Value.okWide Tryz.prog w r b0 t v) (h : DataW.Trod enc Tryz.prog w base spare held t v d p) :
  ∃ x : D,Conf Tryz.prog x t ∧ x.bulk ≤ Rows.uptoBulk d ∧ Rep (Ctx.of w) (.agg x.cells) v:=by
 obtain ⟨cs,rfl,_⟩:=okWide_struct hu hval
 obtain ⟨fuel,hf⟩:=h
 obtain ⟨x,h1,h2,h3⟩:=trod_rdB hK fuel t ht _ _ hf
 exact ⟨x,h2,h3,rep_agg.2 ⟨cs.toList,by simp,rd_of h1⟩⟩
set_option maxRecDepth 100000 in
theorem arg_conf_state (hval : Value.okWide Tryz.prog w r b0 39 v) (h : DataW.Trod enc Tryz.prog w base spare held 39 v d p) :
  ∃ (x : Sf.St) (_ : x.Wf ∧ x.bulkD ≤ Rows.uptoBulk d),Rep (Ctx.of w) x.A v:=by
 obtain ⟨x,h1,h2,h3⟩:=arg_dataB kState_plain (by decide) Tryz.underlying39 hval h
 obtain ⟨y,rfl,h4⟩:=Sf.conf_st h1
 rw [Sf.St.cells_toD] at h3
 exact ⟨y,⟨h4,h2⟩,h3⟩
end
end AX
end Go.Proofs.YteklhoajalgehaaGreatDoor

namespace Go.Proofs.YteklhoajalgehaaGreatDoor
open Go.RowKit
namespace AX
theorem w_nothingX (st : Sf.St) (k : st.Wf ∧ st.bulkD ≤ 1048576) : ACall Tryz.prog GT 6 [st.A] ⟨[],[]⟩ fun r _ => r = .bool true:=
 w_nothing0 aw50 st (Sf.fit_of k.1 (Nat.le_trans k.2 (by decide))) (st_few k.1 k.2)
end AX
end Go.Proofs.YteklhoajalgehaaGreatDoor
