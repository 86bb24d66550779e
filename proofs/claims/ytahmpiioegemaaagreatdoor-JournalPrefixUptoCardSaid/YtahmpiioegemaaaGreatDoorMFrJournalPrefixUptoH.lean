/- Part of what the proof needs. -/
import Derived.Test.YtahmpiioegemaaaGreatDoorMFrJournalPrefixUptoG
import Derived.Test.YtahmpiioegemaaaGreatDoorProg
import Derived.KernelRfl
set_option maxHeartbeats 4000000
set_option linter.unusedSimpArgs false
set_option linter.unusedVariables false
set_option linter.unnecessarySimpa false
namespace Go.Proofs.YtahmpiioegemaaaGreatDoor
open Go.RowKit Go.ChangeShapes Go.WideShapes
mutual
theorem D.induct {P:D→Prop} (hi:∀ k n,P (.int k n)) (hs:∀ l,P (.str l)) (hb:∀ b,P (.bool b)) (ha:∀ l,(∀ d∈l,P d)→P (.agg l)) (hsl:∀ W l,(∀ d∈l,P d)→P (.sl W l)):∀ d:D,P d
 | .int k n=>hi k n
 | .str l=>hs l
 | .bool b=>hb b
 | .agg l=>ha l (D.inducts hi hs hb ha hsl l)
 | .sl W l=>hsl W l (D.inducts hi hs hb ha hsl l)
theorem D.inducts {P:D→Prop} (hi:∀ k n,P (.int k n)) (hs:∀ l,P (.str l)) (hb:∀ b,P (.bool b)) (ha:∀ l,(∀ d∈l,P d)→P (.agg l)) (hsl:∀ W l,(∀ d∈l,P d)→P (.sl W l)):∀ l:List D,∀ d∈l,P d
 | []=>by simp
 | d::l=>List.forall_mem_cons.2 ⟨D.induct hi hs hb ha hsl d,D.inducts hi hs hb ha hsl l⟩
end
mutual
def V.Wf:V→Prop
 | .mk k n s is ks=>((Lit.int .i64 k).wf=true∧(Lit.int .i64 n).wf=true∧s.length≤maxLen∧is.length≤maxLen∧ks.length≤maxLen∧∀ q∈ks,q.length≤maxLen)∧V.Wfs is
def V.Wfs:List V→Prop
 | []=>True
 | v::l=>v.Wf∧V.Wfs l
end
theorem V.wfs_of:∀ l:List V,(∀ v∈l,v.Wf)→V.Wfs l
 | [],_=>by unfold V.Wfs; trivial
 | v::l,h=>by unfold V.Wfs; exact ⟨h v (by simp),V.wfs_of l fun x hx=>h x (by simp [hx])⟩
section
variable {P:Program}
theorem conf_int {d:D} {t:TypeId} {k:IntKind} (hu:P.underlying t=some (.int k)) (h:Conf P d t):∃ n,d = .int k n∧(Lit.int k n).wf=true:=by
 cases d <;> unfold Conf at h <;> first
  | (obtain ⟨h1,h2⟩:=h; rw [hu] at h1; injection h1 with h1; injection h1 with h1; subst h1; exact ⟨_,rfl,h2⟩)
  | (obtain ⟨h1,h2⟩:=h; rw [hu] at h1; cases h1)
  | (obtain ⟨_,h1,_⟩:=h; rw [hu] at h1; cases h1)
  | (rw [hu] at h; cases h; done)
theorem conf_str {d:D} {t:TypeId} (hu:P.underlying t=some .string) (h:Conf P d t):∃ l,d = .str l∧l.length≤maxLen:=by
 cases d <;> unfold Conf at h <;> first
  | exact ⟨_,rfl,h.2⟩
  | (obtain ⟨h1,h2⟩:=h; rw [hu] at h1; cases h1)
  | (obtain ⟨_,h1,_⟩:=h; rw [hu] at h1; cases h1)
  | (rw [hu] at h; cases h; done)
theorem conf_bool {d:D} {t:TypeId} (hu:P.underlying t=some .bool) (h:Conf P d t):∃ b,d = .bool b:=by
 cases d <;> unfold Conf at h <;> first
  | exact ⟨_,rfl⟩
  | (obtain ⟨h1,h2⟩:=h; rw [hu] at h1; cases h1)
  | (obtain ⟨_,h1,_⟩:=h; rw [hu] at h1; cases h1)
theorem conf_struct {d:D} {t:TypeId} {fs:Array Field} (hu:P.underlying t=some (.struct fs)) (h:Conf P d t):∃ l,d = .agg l∧ConfL P l (fs.toList.map (·.type)):=by
 cases d <;> unfold Conf at h <;> first
  | (obtain ⟨fs',h1,h2⟩:=h; rw [hu] at h1; injection h1 with h1; injection h1 with h1; subst h1; exact ⟨_,rfl,h2⟩)
  | (obtain ⟨h1,h2⟩:=h; rw [hu] at h1; cases h1)
  | (obtain ⟨_,h1,_⟩:=h; rw [hu] at h1; cases h1)
  | (rw [hu] at h; cases h; done)
theorem conf_slice {d:D} {t e:TypeId} (hu:P.underlying t=some (.slice e)) (h:Conf P d t):∃ l,d = .sl (P.cellsOf e) l∧ConfA P l e∧l.length≤maxLen:=by
 cases d <;> unfold Conf at h <;> first
  | (obtain ⟨e',h1,h2,h3⟩:=h; rw [hu] at h1; injection h1 with h1; injection h1 with h1; subst h1; subst h2; exact ⟨_,rfl,h3⟩)
  | (obtain ⟨h1,h2⟩:=h; rw [hu] at h1; cases h1)
  | (obtain ⟨_,h1,_⟩:=h; rw [hu] at h1; cases h1)
  | (rw [hu] at h; cases h; done)
theorem confL_cons {l:List D} {t:TypeId} {ts:List TypeId} (h:ConfL P l (t::ts)):∃ d l',l=d::l'∧Conf P d t∧ConfL P l' ts:=by
 cases l with
 | nil=>unfold ConfL at h; cases h
 | cons d l =>
  unfold ConfL at h
  obtain ⟨t',ts',h1,h2,h3⟩:=h
  injection h1 with h1 h4
  subst h1; subst h4
  exact ⟨d,l,rfl,h2,h3⟩
theorem confL_nil {l:List D} (h:ConfL P l []):l=[]:=by
 cases l with
 | nil=>rfl
 | cons d l=>unfold ConfL at h; obtain ⟨_,_,h1,_⟩:=h; cases h1
theorem confA_mem:∀ {l:List D} {t:TypeId},ConfA P l t→∀ d∈l,Conf P d t
 | [],t,h=>by simp
 | d::l,t,h=>by
  unfold ConfA at h
  exact List.forall_mem_cons.2 ⟨h.1,confA_mem h.2⟩
theorem conf_strs {t:TypeId} (hu:P.underlying t=some .string):∀ l:List D,ConfA P l t→∃ ks:List (List UInt8),l=ks.map .str∧∀ q∈ks,q.length≤maxLen
 | [],h=>⟨[],rfl,by simp⟩
 | d::l,h=>by
  unfold ConfA at h
  obtain ⟨s,rfl,hs⟩:=conf_str hu h.1
  obtain ⟨ks,rfl,hk⟩:=conf_strs hu l h.2
  exact ⟨s::ks,rfl,List.forall_mem_cons.2 ⟨hs,hk⟩⟩
end
theorem list_of:∀ l:List D,(∀ d∈l,∃ v:V,d=v.toD∧v.Wf)→∃ vs:List V,l=V.toDs vs∧∀ v∈vs,v.Wf
 | [],h=>⟨[],rfl,by simp⟩
 | d::l,h=>by
  obtain ⟨v,rfl,hv⟩:=h d (by simp)
  obtain ⟨vs,rfl,hvs⟩:=list_of l fun d hd=>h d (by simp [hd])
  exact ⟨v::vs,rfl,List.forall_mem_cons.2 ⟨hv,hvs⟩⟩
theorem conf_val_both (d:D):(Conf Tryz.prog d 34→∃ v:V,d=v.toD∧v.Wf)∧(Conf Tryz.prog d 31→∃ vs:List V,d = .sl 5 (V.toDs vs)∧(∀ v∈vs,v.Wf)∧vs.length≤maxLen):=by
 have hst:∀ d,(∀ l,d≠D.agg l)→¬ Conf Tryz.prog d 34:=fun d hd h=>by
  obtain ⟨l,h1,_⟩:=conf_struct Tryz.underlying34 h
  exact hd l h1
 have hsl:∀ d,(∀ W l,d≠D.sl W l)→¬ Conf Tryz.prog d 31:=fun d hd h=>by
  obtain ⟨l,h1,_⟩:=conf_slice Tryz.underlying31 h
  exact hd _ l h1
 refine D.induct (P:=fun d=>(Conf Tryz.prog d 34→∃ v:V,d=v.toD∧v.Wf)∧(Conf Tryz.prog d 31→∃ vs:List V,d = .sl 5 (V.toDs vs)∧(∀ v∈vs,v.Wf)∧vs.length≤maxLen)) ?_ ?_ ?_ ?_ ?_ d
 ·exact fun k n=>⟨fun h=>absurd h (hst _ fun l=>by simp),fun h=>absurd h (hsl _ fun W l=>by simp)⟩
 ·exact fun l=>⟨fun h=>absurd h (hst _ fun l=>by simp),fun h=>absurd h (hsl _ fun W l=>by simp)⟩
 ·exact fun b=>⟨fun h=>absurd h (hst _ fun l=>by simp),fun h=>absurd h (hsl _ fun W l=>by simp)⟩
 ·intro l ih
  refine ⟨fun h=>?_,fun h=>absurd h (hsl _ fun W l=>by simp)⟩
  obtain ⟨l',h1,h2⟩:=conf_struct Tryz.underlying34 h
  injection h1 with h1
  subst h1
  obtain ⟨d0,l1,rfl,c0,h2⟩:=confL_cons h2
  obtain ⟨d1,l2,rfl,c1,h2⟩:=confL_cons h2
  obtain ⟨d2,l3,rfl,c2,h2⟩:=confL_cons h2
  obtain ⟨d3,l4,rfl,c3,h2⟩:=confL_cons h2
  obtain ⟨d4,l5,rfl,c4,h2⟩:=confL_cons h2
  obtain rfl:=confL_nil h2
  obtain ⟨k,rfl,hk⟩:=conf_int (k:=.i64) Tryz.underlying30 c0
  obtain ⟨n,rfl,hn⟩:=conf_int (k:=.i64) Tryz.underlying3 c1
  obtain ⟨s,rfl,hs⟩:=conf_str Tryz.underlying9 c2
  obtain ⟨vs,rfl,hvs,hvl⟩:=(ih d3 (by simp)).2 c3
  obtain ⟨l4,rfl,c5,hl4⟩:=conf_slice Tryz.underlying32 c4
  obtain ⟨ks,rfl,hks⟩:=conf_strs Tryz.underlying9 l4 c5
  have hw:Tryz.prog.cellsOf 9=1:=by kernel_rfl
  rw [hw]
  refine ⟨.mk k n s vs ks,rfl,?_⟩
  unfold V.Wf
  exact ⟨⟨hk,hn,hs,hvl,by simpa using hl4,hks⟩,V.wfs_of vs hvs⟩
 ·intro W l ih
  refine ⟨fun h=>absurd h (hst _ fun l=>by simp),fun h=>?_⟩
  obtain ⟨l',h1,h2,h3⟩:=conf_slice Tryz.underlying31 h
  injection h1 with h0 h1
  subst h1
  have hw:Tryz.prog.cellsOf 34=5:=by kernel_rfl
  rw [hw] at h0
  subst h0
  obtain ⟨vs,rfl,hvs⟩:=list_of l fun d hd=>(ih d hd).1 (confA_mem h2 d hd)
  exact ⟨vs,rfl,hvs,by rw [V.toDs_map] at h3; simpa using h3⟩
theorem conf_val {d:D} (h:Conf Tryz.prog d 34):∃ v:V,d=v.toD∧v.Wf:=(conf_val_both d).1 h
end Go.Proofs.YtahmpiioegemaaaGreatDoor
