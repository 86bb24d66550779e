/- Part of what the proof needs. -/
import Derived.Test.YtdgcbckcameggaaGreatDoorMFrStatefileReadsB
import Derived.MapKept
import Derived.LoopN
import Derived.Tactics
import Derived.Orders
set_option maxHeartbeats 4000000
set_option linter.unusedSimpArgs false
set_option linter.unusedVariables false
set_option linter.unnecessarySimpa false
namespace Go.Proofs.YtdgcbckcameggaaGreatDoor
open Go.RowKit
namespace AX
def Ctx.turn (C:Ctx) (w':World) (i:Nat) (claim:Bool):Ctx:={ C with w:=w',own:=fun g=>if g < C.w.heap.size then C.own g else if claim=true∧g < w'.heap.size then some i else none }
theorem box_turn {G:World→Prop} {C:Ctx} {h:Hp} {w':World} {i:Nat} {b':Blk} (claim:Bool) (hI:Inv G C h) (hi:i < C.nb) (hos:w'.os=C.w.os) (htape:w'.tape=C.w.tape) (hout:w'.output=C.w.output) (hsz:C.w.heap.size≤w'.heap.size)
  (hblk:∀ g,g < C.w.heap.size→C.own g≠some i→w'.heap[g]?=C.w.heap[g]?) (hrep:Step C (C.turn w' i claim)→BlkRep (C.turn w' i claim) i b'):Inv G (C.turn w' i claim) ⟨h.b.set i b',h.t⟩∧Step C (C.turn w' i claim):=by
 have hlt:∀ g,C.own g=none→g < C.w.heap.size→w'.heap[g]?=C.w.heap[g]?:=fun g hg hl=>hblk g hl (by rw [hg]; simp)
 have hE:Ext C (C.turn w' i claim):=by
  refine ⟨fun g j hs=>⟨hs,?_⟩,Nat.le_refl _,fun _ _=>rfl,fun t E W m ht=>?_⟩
  ·obtain ⟨h1,h2,_⟩:=hI.prot g j hs
   exact cell_of_block (hlt g h2 h1)
  ·obtain ⟨h0,_,cap,h1,_⟩:=hI.rows t E W m ht
   exact ⟨m,ht,.inr ⟨rfl,rfl,fun cap hc=>hc.same (hlt _ h0 h1.lt)⟩⟩
 have hown:∀ g,g < C.w.heap.size→(C.turn w' i claim).own g=C.own g:=fun g hg=>by
  show (if g < C.w.heap.size then C.own g else _)=_
  rw [if_pos hg]
 have hown':∀ j,j≠i→∀ g,(C.turn w' i claim).own g=some j↔C.own g=some j:=fun j hj g=>by
  show (if g < C.w.heap.size then C.own g else if claim=true∧g < w'.heap.size then some i else none)=some j↔_
  split
  ·exact Iff.rfl
  ·next hg =>
   constructor
   ·intro e
    split at e
    ·injection e with e; exact absurd e.symm hj
    ·cases e
   ·intro e; exact absurd (hI.ownlt g j e).2.1 hg
 have hS:Step C (C.turn w' i claim):=⟨hE,hos,htape,hout,hsz,rfl,fun g hg ho _=>hlt g ho hg,hown,fun g j hs => .inl hs,fun t ht => .inr ⟨ht,rfl⟩⟩
 refine ⟨⟨by rw [List.length_set]; exact hI.nb,fun j b hjb=>?_,fun j hj=>?_,fun g j hg=>?_,fun g j hs=>?_,fun t E W m ht=>?_,hI.inj,hI.toks,?_,fun w2 hw2=>?_⟩,hS⟩
 ·rw [List.getElem?_set] at hjb
  split at hjb
  ·next e =>
   subst e
   split at hjb
   ·injection hjb with hjb; subst hjb; exact hrep hS
   ·cases hjb
  ·next hne =>
   have hj:j < C.nb:=by rw [←hI.nb]; exact (List.getElem?_eq_some_iff.1 hjb).1
   refine (hI.box j b hjb).ext hE hj (hI.ownk j hj) (fun g j hg=>(hI.ownlt g j hg).2.1) (fun g hg=>hblk g (hI.ownlt g j hg).2.1 (by rw [hg]; intro e; injection e with e; exact hne e.symm)) (fun g=>hown' j (fun e=>hne e.symm) g) hsz
 ·have h1:=hI.ownk j hj
  rw [show (C.turn w' i claim).κ j=C.κ j from rfl,hown _ (hI.ownlt _ _ h1).2.1]
  exact h1
 ·have hg':(if g < C.w.heap.size then C.own g else if claim=true∧g < w'.heap.size then some i else none)=some j:=hg
  split at hg'
  ·obtain ⟨k1,k2,k3⟩:=hI.ownlt g j hg'
   exact ⟨k1,Nat.lt_of_lt_of_le k2 hsz,k3⟩
  ·next hge =>
   split at hg'
   ·next hc=>injection hg' with hg'; subst hg'; exact ⟨hi,hc.2,by have:=hI.base; show C.base≤g; omega⟩
   ·cases hg'
 ·obtain ⟨k1,k2,k3⟩:=hI.prot g j hs
  exact ⟨Nat.lt_of_lt_of_le k1 hsz,(hown g k1).trans k2,k3⟩
 ·obtain ⟨k1,k2,cap,k3,k4⟩:=hI.rows t E W m ht
  exact ⟨(hown _ k3.lt).trans k1,k2,cap,k3.same (hlt _ k1 k3.lt),k4⟩
 ·exact Nat.le_trans hI.base hsz
 ·refine hI.glob w2 fun g hg=>(hw2 g hg).trans ?_
  have hg':g < C.w.heap.size:=Nat.lt_of_lt_of_le hg hI.base
  refine hblk g hg' fun e=>?_
  have:=(hI.ownlt g i e).2.2
  omega
section
variable {P:Program} {G:World→Prop} {C:Ctx} {a:Act} {o:Oper} {h:Hp} {ts:Nat→A} {n:Nat}
theorem mapB_of {t:TypeId} (hm:mapB P t=true):∃ q e k,P.underlying t=some (.map q e)∧P.underlying q=some (.int k):=by
 unfold mapB at hm
 split at hm
 ·next q e hu =>
  split at hm
  ·next k hk=>exact ⟨q,e,k,hu,hk⟩
  ·cases hm
 ·cases hm
theorem run_checkKey {q:TypeId} {k:IntKind} (w:World) (b:Bool) (d:Nat) (n:Int) (hq:P.underlying q=some (.int k)):(Instr.checkKey b (d+1) q (.int .i64 n)).run P w = .ok () w:=by
 simp [Instr.checkKey,run_underlying hq]
theorem find_es {k:IntKind} (n:Int):∀ (l:List (Int×A)) (es:List MapEntry) (i:Nat),RepEs C l es →
  (mfind n l=none∧Instr.findNow (.int k) (.int .i64 n) es i=some none)∨∃ x j e,mfind n l=some x∧Instr.findNow (.int k) (.int .i64 n) es i=some (some (i+j,e.val))∧es[j]?=some e∧e.key = .int .i64 n∧Rep C x e.val ∧
   (∀ y v,Rep C y v→RepEs C (mput n y l) (es.modify j fun e=>{ e with key:=.int .i64 n,val:=v }))∧RepEs C (merase n l) (es.eraseIdx j)
 | [],es,i,hr=>by
  have:es=[]:=hr
  subst this
  exact .inl ⟨rfl,rfl⟩
 | (m,x)::l,es,i,hr=>by
  obtain ⟨e,es',rfl,h1,h2,h3⟩:=hr
  by_cases hn:n=m
  ·subst hn
   refine .inr ⟨x,0,e,by simp [mfind],by simp [Instr.findNow,Instr.sameNow,h1],rfl,h1,h2,fun y v hv=>?_,?_⟩
   ·simp only [mput,if_true,List.modify_cons]
    exact ⟨_,es',rfl,rfl,hv,h3⟩
   ·simp only [merase,if_true,List.eraseIdx_cons_zero]
    exact h3
  ·have hb:(n == m)=false:=by simp [hn]
   have hf:Instr.findNow (.int k) (.int .i64 n) (e::es') i=Instr.findNow (.int k) (.int .i64 n) es' (i+1):=by
    simp [Instr.findNow,Instr.sameNow,h1,hb]
   rw [hf]
   rcases find_es n l es' (i+1) h3 with ⟨k1,k2⟩ | ⟨y,j,e',k1,k2,k3,k4,k5,k6,k7⟩
   ·exact .inl ⟨by simp only [mfind,if_neg hn]; exact k1,k2⟩
   ·refine .inr ⟨y,j+1,e',by simp only [mfind,if_neg hn]; exact k1,by rw [k2,show i+1+j=i+(j+1) by omega],by simpa using k3,k4,k5,fun z v hv=>?_,?_⟩
    ·simp only [mput,if_neg hn,List.modify_succ_cons]
     exact ⟨e,_,rfl,h1,h2,k6 z v hv⟩
    ·simp only [merase,if_neg hn,List.eraseIdx_cons_succ]
     exact ⟨e,_,rfl,h1,h2,k7⟩
theorem put_es (n:Int):∀ (l:List (Int×A)) (es:List MapEntry) (y:A) (v:Value) (b:Nat),RepEs C l es→mfind n l=none→Rep C y v→RepEs C (mput n y l) (es++[{ key:=.int .i64 n,val:=v,born:=b }])
 | [],es,y,v,b,hr,hf,hv=>by
  have:es=[]:=hr
  subst this
  exact ⟨_,[],rfl,rfl,hv,rfl⟩
 | (m,x)::l,es,y,v,b,hr,hf,hv=>by
  obtain ⟨e,es',rfl,h1,h2,h3⟩:=hr
  have hn:n≠m:=by
   intro e
   simp [mfind,e] at hf
  simp only [mfind,if_neg hn] at hf
  simp only [mput,if_neg hn]
  exact ⟨e,_,rfl,h1,h2,put_es n l es' y v b h3 hf hv⟩
theorem run_findKey {q:TypeId} {k:IntKind} (w:World) (n:Int) (es:List MapEntry) (r:Option (Nat×Value)) (hq:P.underlying q=some (.int k)) (hf:Instr.findNow (.int k) (.int .i64 n) es 0=some r):(Instr.findKey q (.int .i64 n) es).run P w = .ok r w:=by
 simp [Instr.findKey,run_underlying hq,hf]
theorem run_getMap {w:World} {b:Nat} {es:Array MapEntry} {c:Nat} (hb:w.heap[b]?=some (.map es c)):(getObj b).run P w = .ok (.map es c) w:=MapKept.run_getObj_map hb
theorem alloc_blk {w:World} {ob:Obj} {b0:Blk} (hw:w=C.w∨w=C.w.drew) (hI:Inv G C h) (hrep:∀ (C':Ctx) (i:Nat),Ext C C'→C'.κ i=C.w.heap.size→C'.own (C'.κ i)=some i→C'.w.heap[C'.κ i]?=some ob→BlkRep C' i b0) :
  ∃ C':Ctx,C'.w=w.alloc ob∧Inv G C' ⟨h.b++[b0],h.t⟩∧Step C C'∧C'.κ h.b.length=C.w.heap.size∧h.b.length < C'.nb:=by
 have hh:w.heap=C.w.heap:=by rcases hw with rfl | rfl <;> rfl
 have hos:w.os=C.w.os∧w.tape=C.w.tape∧w.output=C.w.output:=by rcases hw with rfl | rfl <;> exact ⟨rfl,rfl,rfl⟩
 let C':Ctx:={ C with w:=w.alloc ob,κ:=fun i=>if i=C.nb then C.w.heap.size else C.κ i,nb:=C.nb+1,own:=fun g=>if g=C.w.heap.size then some C.nb else C.own g }
 have hblk:∀ g,g < C.w.heap.size→C'.w.heap[g]?=C.w.heap[g]?:=fun g hg=>by
  show (w.alloc ob).heap[g]?=_
  rw [Below.heap_alloc w _ g (by rw [hh]; exact hg),hh]
 have hsz:C'.w.heap.size=C.w.heap.size+1:=by show (w.alloc ob).heap.size=_; simp [hh]
 have hE:Ext C C':=by
  refine ⟨fun g j hs=>⟨hs,cell_of_block (hblk g (hI.prot g j hs).1)⟩,Nat.le_succ _,fun i hi=>?_,fun t E W m ht=>?_⟩
  ·show (if i=C.nb then C.w.heap.size else C.κ i)=C.κ i
   rw [if_neg (by omega)]
  ·obtain ⟨_,_,cap,h1,_⟩:=hI.rows t E W m ht
   exact ⟨m,ht,.inr ⟨rfl,rfl,fun cap hc=>hc.same (hblk _ h1.lt)⟩⟩
 have hown:∀ g,g < C.w.heap.size→C'.own g=C.own g:=fun g hg=>by
  show (if g=C.w.heap.size then some C.nb else C.own g)=_
  rw [if_neg (by omega)]
 have hown':∀ g i,i < C.nb→(C'.own g=some i↔C.own g=some i):=fun g i hi=>by
  show (if g=C.w.heap.size then some C.nb else C.own g)=some i↔_
  split
  ·next e=>exact ⟨fun e=>by injection e with e; omega,fun e'=>by have:=(hI.ownlt g i e').2.1; omega⟩
  ·exact Iff.rfl
 refine ⟨C',rfl,⟨?_,fun i b hib=>?_,fun i hi=>?_,fun g i hg=>?_,fun g j hs=>?_,fun t E W m ht=>?_,hI.inj,hI.toks,?_,fun w2 hw2=>?_⟩,⟨hE,hos.1,hos.2.1,hos.2.2,by omega,rfl,fun g hg _ _=>hblk g hg,hown,fun g j hs => .inl hs,fun t ht => .inr ⟨ht,rfl⟩⟩,?_⟩
 ·show (h.b++[b0]).length=C.nb+1
  rw [List.length_append,hI.nb]; rfl
 ·rw [List.getElem?_append] at hib
  split at hib
  ·next hi =>
   have hi':i < C.nb:=by rw [←hI.nb]; exact hi
   exact (hI.box i b hib).ext hE hi' (hI.ownk i hi') (fun g j hg=>(hI.ownlt g j hg).2.1) (fun g hg=>hblk g (hI.ownlt g i hg).2.1) (fun g=>hown' g i hi') (by omega)
  ·next hi =>
   have hk:i - h.b.length=0:=by
    rcases Nat.eq_zero_or_pos (i - h.b.length) with e | e
    ·exact e
    ·rw [List.getElem?_eq_none (by simp only [List.length_cons,List.length_nil]; omega)] at hib; cases hib
   rw [hk] at hib
   simp only [List.getElem?_cons_zero,Option.some.injEq] at hib
   subst hib
   have hi':i=C.nb:=by have:=hI.nb; omega
   have hκ:C'.κ i=C.w.heap.size:=by show (if i=C.nb then C.w.heap.size else C.κ i)=_; rw [if_pos hi']
   refine hrep C' i hE hκ (by rw [hκ]; show (if C.w.heap.size=C.w.heap.size then some C.nb else _)=_; rw [if_pos rfl,hi']) ?_
   show (w.alloc ob).heap[if i=C.nb then C.w.heap.size else C.κ i]?=_
   rw [if_pos hi',←hh]
   exact heap_alloc_new w _
 ·show (if (if i=C.nb then C.w.heap.size else C.κ i)=C.w.heap.size then some C.nb else C.own (if i=C.nb then C.w.heap.size else C.κ i))=some i
  by_cases hi':i=C.nb
  ·rw [if_pos hi',if_pos rfl,hi']
  ·have hi2:i < C.nb:=by have:i < C.nb+1:=hi; omega
   have:=(hI.ownlt _ _ (hI.ownk i hi2)).2.1
   rw [if_neg hi',if_neg (by omega)]
   exact hI.ownk i hi2
 ·have hg':(if g=C.w.heap.size then some C.nb else C.own g)=some i:=hg
  split at hg'
  ·next e =>
   injection hg' with hg'
   exact ⟨by show i < C.nb+1; omega,by omega,by rw [e]; exact hI.base⟩
  ·obtain ⟨k1,k2,k3⟩:=hI.ownlt g i hg'
   exact ⟨by show i < C.nb+1; omega,by omega,k3⟩
 ·obtain ⟨k1,k2,k3⟩:=hI.prot g j hs
  exact ⟨by omega,(hown g k1).trans k2,k3⟩
 ·obtain ⟨k1,k2,cap,k3,k4⟩:=hI.rows t E W m ht
  exact ⟨(hown _ k3.lt).trans k1,k2,cap,k3.same (hblk _ k3.lt),k4⟩
 ·show C.base≤C'.w.heap.size
  have:=hI.base; omega
 ·exact hI.glob w2 fun g hg=>(hw2 g hg).trans (hblk g (Nat.lt_of_lt_of_le hg hI.base))
 ·refine ⟨?_,by show h.b.length < C.nb+1; have:=hI.nb; omega⟩
  show (if h.b.length=C.nb then C.w.heap.size else C.κ h.b.length)=_
  rw [if_pos hI.nb]
theorem ok_mkmap {t:TypeId} (hI:Inv G C h) (hop:o.op = .makeMap t none):OpOk P G C a o (.mp h.b.length) ⟨h.b++[.map [] 0],h.t⟩:=by
 obtain ⟨C',h1,h2,h3,h4,h5⟩:=alloc_blk (w:=C.w) (ob:=.map #[] 0) (b0:=.map [] 0) (.inl rfl) hI (fun C' i hE _ _ hh=>⟨#[],hh,rfl,by simp [BornOk],by simp⟩)
 refine ⟨C',.map (some C.w.heap.size),.inl ?_,h2,h3,rep_mp.2 ⟨by rw [h4],h5⟩⟩
 rw [h1]
 unfold execOp
 simp [hop,Instr.makeMap]
theorem zeroOf_of {t q e:TypeId} {z:A} (hu:P.underlying t=some (.map q e)) (hz:zeroOf P t=some z):∃ zv,(∀ w,(zeroValue e).run P w = .ok zv w)∧∀ C,Rep C z zv:=by
 unfold zeroOf at hz
 rw [hu] at hz
 simp only [Option.bind_eq_some_iff] at hz
 obtain ⟨i,h1,zv,h2,h3⟩:=hz
 exact ⟨zv,fun w=>by simp [zeroValue,typeInfo,h1,h2],fun C=>rep_convV h3⟩
theorem ok_mget {t:TypeId} {m k:Operand} {ok:Bool} {z u v r:A} (hI:Inv G C h) (hop:o.op = .lookup t m k ok) (hm:mapB P t=true) (hz:zeroOf P t=some z) (hx:Rep C u (a.eval m)) (hy:Rep C v (a.eval k)) (hg:mgetA h z ok u v=some r):OpOk P G C a o r h:=by
 obtain ⟨q,e,kk,hu,hq⟩:=mapB_of hm
 obtain ⟨zv,hz1,hz2⟩:=zeroOf_of hu hz
 have fin:∀ (x:A) (xv:Value) (b:Bool),Rep C x xv→r=(if ok then .tup [x,.bool b] else x)→(Instr.lookup t (a.eval m) (a.eval k) ok).run P C.w = .ok (if ok then .tuple #[xv,.bool b] else xv) C.w→OpOk P G C a o r h:=fun x xv b h1 h2 h3=>by
  subst h2
  refine ok_same (cv:=if ok then .tuple #[xv,.bool b] else xv) hI ?_ ?_
  ·unfold execOp
   simp only [hop,Sem.run_bind,h3,Result.andThen_ok]
   rfl
  ·cases ok
   ·exact h1
   ·exact rep_tup.2 ⟨[xv,.bool b],rfl,repL_cons.2 ⟨_,_,rfl,h1,repL_cons.2 ⟨_,_,rfl,rep_bool.2 rfl,repL_nil.2 rfl⟩⟩⟩
 have hck:∀ b n,(Instr.checkKey b 10000 q (.int .i64 n)).run P C.w = .ok () C.w:=fun b n=>run_checkKey C.w b 9999 n hq
 unfold mgetA at hg
 split at hg
 ·next n =>
  rw [rep_nilm] at hx; rw [rep_int] at hy
  simp only [Option.some.injEq,mgetV,Option.getD_none,Option.isSome_none] at hg
  refine fin z zv false (hz2 C) hg.symm ?_
  rw [hx,hy]
  have hf:=run_findKey (P:=P) C.w n [] none hq rfl
  simp [Instr.lookup,run_underlying hu,hck,hf,hz1,Result.andThen]
 ·next i n =>
  obtain ⟨hx,hi⟩:=rep_mp.1 hx
  rw [rep_int] at hy
  split at hg
  ·next es c hb =>
   obtain ⟨es',k1,k2,k3⟩:=hI.box i _ hb
   simp only [Option.some.injEq] at hg
   rcases find_es (k:=kk) n es es'.toList 0 k2 with ⟨e1,e2⟩ | ⟨x,j,en,e1,e2,e3,e4,e5,e6,e7⟩
   ·rw [e1] at hg
    simp only [mgetV,Option.getD_none,Option.isSome_none] at hg
    refine fin z zv false (hz2 C) hg.symm ?_
    rw [hx,hy]
    have hf:=run_findKey (P:=P) C.w n es'.toList none hq e2
    simp [Instr.lookup,run_underlying hu,run_getMap k1,hck,hf,hz1,Result.andThen]
   ·rw [e1] at hg
    simp only [mgetV,Option.getD_some,Option.isSome_some] at hg
    refine fin x en.val true e5 hg.symm ?_
    rw [hx,hy]
    have hf:=run_findKey (P:=P) C.w n es'.toList _ hq e2
    simp [Instr.lookup,run_underlying hu,run_getMap k1,hck,hf,Result.andThen]
  ·cases hg
 ·cases hg
theorem ok_mlen {t:TypeId} {c:Call} {m:Operand} {u r:A} {T:TypeId} {e q:TypeId} (hI:Inv G C h) (hop:o.op = .call c) (hcal:c.callee = .builtin .len) (ha:c.args=#[m]) (hty:c.argTypes=#[T]) (hu:P.underlying T=some (.map q e)) (hx:Rep C u (a.eval m)) (hg:mlenA h u=some r):OpOk P G C a o r h:=by
 have key:∃ n:Nat,r = .int .i64 n∧(Builtin.len_ #[T] o.type #[a.eval m]).run P C.w = .ok (.int .i64 n) C.w:=by
  unfold mlenA at hg
  split at hg
  ·rw [rep_nilm] at hx
   simp only [Option.some.injEq] at hg
   refine ⟨0,hg.symm,?_⟩
   rw [hx]
   simp [Builtin.len_,run_underlying hu,goInt]
  ·next i =>
   obtain ⟨hx,hi⟩:=rep_mp.1 hx
   split at hg
   ·next es c hb =>
    obtain ⟨es',k1,k2,k3⟩:=hI.box i _ hb
    simp only [Option.some.injEq] at hg
    have hl:es'.size=es.length:=by
     have:∀ (l:List (Int×A)) (es:List MapEntry),RepEs C l es→es.length=l.length:=by
      intro l
      induction l with
      | nil=>intro es h; have:es=[]:=h; simp [this]
      | cons x l ih =>
       intro es h
       obtain ⟨e,es',rfl,_,_,h4⟩:=h
       simp [ih _ h4]
     simpa using this _ _ k2
    refine ⟨es.length,hg.symm,?_⟩
    rw [hx]
    simp [Builtin.len_,run_underlying hu,run_getMap k1,hl,goInt]
   ·cases hg
  ·cases hg
 obtain ⟨n,rfl,h1⟩:=key
 refine ok_same hI ?_ (rep_int.2 rfl)
 unfold execOp
 simp [hop,resolve,hcal,ha,hty,invoke,builtin,h1]
theorem turn_map {i:Nat} {l l':List (Int×A)} {c c':Nat} {es:Array MapEntry} (es':Array MapEntry) (hI:Inv G C h) (hb:h.b[i]?=some (.map l c)) (h1:C.w.heap[C.κ i]?=some (.map es c))
  (h2:RepEs C l' es'.toList) (h3:BornOk es'.toList c'):∃ C':Ctx,C'.w={ C.w with heap:=C.w.heap.setIfInBounds (C.κ i) (.map es' c') }∧Inv G C' ⟨h.b.set i (.map l' c'),h.t⟩∧Step C C':=by
 have hi:i < C.nb:=by rw [←hI.nb]; exact (List.getElem?_eq_some_iff.1 hb).1
 have hk:C.κ i < C.w.heap.size:=(Array.getElem?_eq_some_iff.1 h1).1
 obtain ⟨k1,k2⟩:=box_turn (w':={ C.w with heap:=C.w.heap.setIfInBounds (C.κ i) (.map es' c') }) (i:=i) (b':=.map l' c') false hI hi rfl rfl rfl (by simp) (fun g hg ho=>by
   have hne:C.κ i≠g:=fun e=>ho (by rw [←e]; exact hI.ownk i hi)
   show (C.w.heap.setIfInBounds (C.κ i) (.map es' c'))[g]?=_
   rw [Array.getElem?_setIfInBounds_ne hne]) (fun hS=>by
   refine ⟨es',?_,h2.ext hS.ext,h3⟩
   show (C.w.heap.setIfInBounds (C.κ i) (.map es' c'))[C.κ i]?=_
   rw [Array.getElem?_setIfInBounds_self_of_lt hk])
 exact ⟨_,rfl,k1,k2⟩
theorem bornOk_modify {es:List MapEntry} {c:Nat} (hb:BornOk es c) (j:Nat) (f:MapEntry→MapEntry) (hf:∀ e,(f e).born=e.born):BornOk (es.modify j f) c:=by
 have e:(es.modify j f).map (·.born)=es.map (·.born):=by
  have key:∀ (l:List MapEntry) (j:Nat),(l.modify j f).map (·.born)=l.map (·.born):=by
   intro l
   induction l with
   | nil=>intro j; cases j <;> simp
   | cons x l ih=>intro j; cases j <;> simp [ih,hf]
  exact key es j
 refine ⟨by rw [e]; exact hb.1,fun x hx=>?_⟩
 have:x.born∈(es.modify j f).map (·.born):=List.mem_map.2 ⟨x,hx,rfl⟩
 rw [e] at this
 obtain ⟨y,hy,e2⟩:=List.mem_map.1 this
 rw [←e2]; exact hb.2 y hy
theorem bornOk_erase {es:List MapEntry} {c:Nat} (hb:BornOk es c) (j:Nat):BornOk (es.eraseIdx j) c:=
 ⟨hb.1.sublist ((List.eraseIdx_sublist es j).map _),fun x hx=>hb.2 x (List.mem_of_mem_eraseIdx hx)⟩
theorem bornOk_push {es:List MapEntry} {c:Nat} (hb:BornOk es c) (k v:Value):BornOk (es++[{ key:=k,val:=v,born:=c }]) (c+1):=by
 refine ⟨?_,fun x hx=>?_⟩
 ·rw [List.map_append,List.nodup_append]
  refine ⟨hb.1,by simp,fun a ha b hb'=>?_⟩
  simp at hb'
  obtain ⟨y,hy,rfl⟩:=List.mem_map.1 ha
  have:=hb.2 y hy
  omega
 ·rcases List.mem_append.1 hx with hx | hx
  ·exact Nat.lt_succ_of_lt (hb.2 x hx)
  ·simp at hx; subst hx; exact Nat.lt_succ_self _
theorem run_keyStays (w:World) (n:Int):(Instr.keyThatStays (.int .i64 n) (.int .i64 n)).run P w = .ok (.int .i64 n) w:=by
 simp [Instr.keyThatStays,Instr.sameBits]
theorem modify_arr (es:Array MapEntry) (j:Nat) (f:MapEntry→MapEntry):(es.modify j f).toList=es.toList.modify j f:=by simp
theorem ok_mset {t:TypeId} {m k x:Operand} {u v y:A} {h':Hp} (hI:Inv G C h) (hop:o.op = .mapUpdate t m k x) (hm:mapB P t=true) (hx:Rep C u (a.eval m)) (hy:Rep C v (a.eval k)) (hv:Rep C y (a.eval x)) (hg:msetA h y u v=some h'):OpOk P G C a o (.tup []) h':=by
 obtain ⟨q,e,kk,hu,hq⟩:=mapB_of hm
 have hck:∀ b n,(Instr.checkKey b 10000 q (.int .i64 n)).run P C.w = .ok () C.w:=fun b n=>run_checkKey C.w b 9999 n hq
 unfold msetA at hg
 split at hg
 ·next i n =>
  obtain ⟨hx,hi⟩:=rep_mp.1 hx
  rw [rep_int] at hy
  split at hg
  ·next es c hb =>
   obtain ⟨es',k1,k2,k3⟩:=hI.box i _ hb
   simp only [Option.some.injEq] at hg
   subst hg
   have fin:∀ (es2:Array MapEntry) (c2:Nat),c2=mclock n es c→RepEs C (mput n y es) es2.toList→BornOk es2.toList c2→(Instr.mapUpdate t (a.eval m) (a.eval k) (a.eval x)).run P C.w = .ok () { C.w with heap:=C.w.heap.setIfInBounds (C.κ i) (.map es2 c2) }→OpOk P G C a o (.tup []) ⟨h.b.set i (.map (mput n y es) (mclock n es c)),h.t⟩:=fun es2 c2 hc2 q1 q2 q3=>by
    subst hc2
    obtain ⟨C',r1,r2,r3⟩:=turn_map es2 hI hb k1 q1 q2
    refine ⟨C',undef,.inr ⟨?_,rfl⟩,r2,r3,rep_tup.2 ⟨[],rfl,repL_nil.2 rfl⟩⟩
    rw [r1]
    unfold execOp
    simp only [hop,Sem.run_bind,q3,Result.andThen_ok,Sem.run_pure]
   rw [hx,hy] at fin
   rcases find_es (k:=kk) n es es'.toList 0 k2 with ⟨e1,e2⟩ | ⟨z,j,en,e1,e2,e3,e4,e5,e6,e7⟩
   ·have hf:=run_findKey (P:=P) C.w n es'.toList none hq e2
    refine fin (es'.push { key:=.int .i64 n,val:=a.eval x,born:=c }) (c+1) (by unfold mclock; rw [e1]; rfl) ?_ ?_ ?_
    ·rw [Array.toList_push]; exact put_es n es es'.toList y _ c k2 e1 hv
    ·rw [Array.toList_push]; exact bornOk_push k3 _ _
    ·simp [Instr.mapUpdate,run_underlying hu,run_getMap k1,hck,hf,MapKept.run_setObj_map _ k1,Result.andThen]
   ·have hf:=run_findKey (P:=P) C.w n es'.toList _ hq e2
    have hj:es'[j]?=some en:=by simpa using e3
    have hks:=run_keyStays (P:=P) C.w n
    rw [Nat.zero_add] at hf
    refine fin (es'.modify j fun e=>{ e with key:=.int .i64 n,val:=a.eval x }) c (by unfold mclock; rw [e1]; rfl) ?_ ?_ ?_
    ·rw [modify_arr]; exact e6 y _ hv
    ·rw [modify_arr]; exact bornOk_modify k3 j _ fun _=>rfl
    ·simp [Instr.mapUpdate,run_underlying hu,run_getMap k1,hck,hf,hj,e4,hks,MapKept.run_setObj_map _ k1,Result.andThen]
  ·cases hg
 ·cases hg
theorem ok_mdel {c:Call} {m k:Operand} {u v:A} {h':Hp} {T:TypeId} {Ts:List TypeId} (hI:Inv G C h) (hop:o.op = .call c) (hcal:c.callee = .builtin .delete) (ha:c.args=#[m,k]) (hty:c.argTypes.toList=T::Ts) (hm:mapB P T=true) (hx:Rep C u (a.eval m)) (hy:Rep C v (a.eval k)) (hg:mdelA h u v=some h'):OpOk P G C a o (.tup []) h':=by
 obtain ⟨q,e,kk,hu,hq⟩:=mapB_of hm
 have hck:∀ b n,(Instr.checkKey b 10000 q (.int .i64 n)).run P C.w = .ok () C.w:=fun b n=>run_checkKey C.w b 9999 n hq
 have hT:c.argTypes[0]?=some T:=by rw [←Array.getElem?_toList,hty]; rfl
 unfold mdelA at hg
 split at hg
 ·next i n =>
  obtain ⟨hx,hi⟩:=rep_mp.1 hx
  rw [rep_int] at hy
  split at hg
  ·next es c0 hb =>
   obtain ⟨es',k1,k2,k3⟩:=hI.box i _ hb
   simp only [Option.some.injEq] at hg
   subst hg
   have fin:∀ (es2:Array MapEntry),RepEs C (merase n es) es2.toList→BornOk es2.toList c0→(Builtin.delete_ c.argTypes o.type #[a.eval m,a.eval k]).run P C.w = .ok (.tuple #[]) { C.w with heap:=C.w.heap.setIfInBounds (C.κ i) (.map es2 c0) }→OpOk P G C a o (.tup []) ⟨h.b.set i (.map (merase n es) c0),h.t⟩:=fun es2 q1 q2 q3=>by
    obtain ⟨C',r1,r2,r3⟩:=turn_map es2 hI hb k1 q1 q2
    refine ⟨C',.tuple #[],.inl ?_,r2,r3,rep_tup.2 ⟨[],rfl,repL_nil.2 rfl⟩⟩
    rw [r1]
    unfold execOp
    simp [hop,resolve,hcal,ha,invoke,builtin,q3]
   rw [hx,hy] at fin
   rcases find_es (k:=kk) n es es'.toList 0 k2 with ⟨e1,e2⟩ | ⟨z,j,en,e1,e2,e3,e4,e5,e6,e7⟩
   ·have hf:=run_findKey (P:=P) C.w n es'.toList none hq e2
    have he:merase n es=es:=by
     have key:∀ l:List (Int×A),mfind n l=none→merase n l=l:=by
      intro l
      induction l with
      | nil=>intro _; rfl
      | cons p l ih =>
       intro hp
       obtain ⟨k,w⟩:=p
       have hne:n≠k:=by intro e; simp [mfind,e] at hp
       simp only [mfind,if_neg hne] at hp
       simp only [merase,if_neg hne,ih hp]
     exact key es e1
    refine fin es' (by rw [he]; exact k2) k3 ?_
    simp [Builtin.delete_,hT,run_underlying hu,run_getMap k1,hck,hf,MapKept.run_setObj_map _ k1,Result.andThen]
   ·have hf:=run_findKey (P:=P) C.w n es'.toList _ hq e2
    rw [Nat.zero_add] at hf
    refine fin (es'.eraseIdxIfInBounds j) ?_ ?_ ?_
    ·rw [Array.toList_eraseIdxIfInBounds]; exact e7
    ·rw [Array.toList_eraseIdxIfInBounds]; exact bornOk_erase k3 j
    ·simp [Builtin.delete_,hT,run_underlying hu,run_getMap k1,hck,hf,MapKept.run_setObj_map _ k1,Result.andThen]
  ·cases hg
 ·cases hg
theorem ok_mclr {c:Call} {m:Operand} {u:A} {h':Hp} {T:TypeId} {Ts:List TypeId} (hI:Inv G C h) (hop:o.op = .call c) (hcal:c.callee = .builtin .clear) (ha:c.args=#[m]) (hty:c.argTypes.toList=T::Ts) (hm:mapB P T=true) (hx:Rep C u (a.eval m)) (hg:mclrA h u=some h'):OpOk P G C a o (.tup []) h':=by
 obtain ⟨q,e,kk,hu,hq⟩:=mapB_of hm
 have hT:c.argTypes[0]?=some T:=by rw [←Array.getElem?_toList,hty]; rfl
 unfold mclrA at hg
 split at hg
 ·next i =>
  obtain ⟨hx,hi⟩:=rep_mp.1 hx
  split at hg
  ·next es c0 hb =>
   obtain ⟨es',k1,k2,k3⟩:=hI.box i _ hb
   simp only [Option.some.injEq] at hg
   subst hg
   obtain ⟨C',r1,r2,r3⟩:=turn_map (l':=[]) (c':=c0) #[] hI hb k1 rfl ⟨by simp,by simp⟩
   refine ⟨C',.tuple #[],.inl ?_,r2,r3,rep_tup.2 ⟨[],rfl,repL_nil.2 rfl⟩⟩
   rw [r1]
   unfold execOp
   simp [hop,resolve,hcal,ha,invoke,builtin,Builtin.clear_,hT,hx,run_underlying hu,run_getMap k1,MapKept.run_setObj_map _ k1]
  ·cases hg
 ·cases hg
end
end AX
end Go.Proofs.YtdgcbckcameggaaGreatDoor

namespace Go.Proofs.YtdgcbckcameggaaGreatDoor
open Go.RowKit
namespace AX
section
variable {P:Program} {G:World→Prop} {C:Ctx} {a:Act} {o:Oper} {h:Hp} {ts:Nat→A} {n:Nat}
theorem arr_of {α:Type} {xs:Array α} {l:List α} (h:xs.toList=l):xs=l.toArray:=Array.toList_inj.1 (by simp [h])
theorem step_ok {ao:AOp} {v:A} {h':Hp} (hI:Inv G C h) (hT:RepT C ts n a) (hc:compOp P n o=some ao) (hs:astep (evX ts) h ao=some (v,h')):OpOk P G C a o v h':=by
 unfold compOp at hc
 split at hc
 ·next x hop =>
  simp only [Option.bind_eq_some_iff,Option.some.injEq] at hc
  obtain ⟨y,h1,rfl⟩:=hc
  simp only [astep,Option.some.injEq,Prod.mk.injEq] at hs
  obtain ⟨rfl,rfl⟩:=hs
  exact ok_mv hI (.inl hop) (rep_opd hT h1)
 ·next x hop =>
  simp only [Option.bind_eq_some_iff,Option.some.injEq] at hc
  obtain ⟨y,h1,rfl⟩:=hc
  simp only [astep,Option.some.injEq,Prod.mk.injEq] at hs
  obtain ⟨rfl,rfl⟩:=hs
  exact ok_mv hI (.inr hop) (rep_opd hT h1)
 ·next c x y hop =>
  simp only [Option.bind_eq_some_iff,Option.some.injEq] at hc
  obtain ⟨c',h1,x',h2,y',h3,rfl⟩:=hc
  simp only [astep] at hs
  split at hs
  ·next b hb =>
   simp only [Option.some.injEq,Prod.mk.injEq] at hs
   obtain ⟨rfl,rfl⟩:=hs
   exact ok_pick hI hop (by rw [←hb]; exact rep_opd hT h1) (rep_opd hT h2) (rep_opd hT h3)
  ·cases hs
 ·next T hop =>
  simp only [Option.bind_eq_some_iff,Option.some.injEq] at hc
  obtain ⟨i,h1,z,h2,l,h3,rfl⟩:=hc
  simp only [astep,Option.some.injEq,Prod.mk.injEq] at hs
  obtain ⟨rfl,rfl⟩:=hs
  exact ok_alloc hI hop h1 h2 h3
 ·next T x hop =>
  simp only [Option.bind_eq_some_iff,Option.some.injEq] at hc
  obtain ⟨y,h1,rfl⟩:=hc
  simp only [astep,Option.some.injEq,Prod.mk.injEq] at hs
  obtain ⟨rfl,rfl⟩:=hs
  exact ok_box hI hop (rep_opd hT h1)
 ·next t parts hop =>
  split at hc
  ·next fs ht =>
   split at hc
   ·next hall =>
    simp only [Option.bind_eq_some_iff,Option.some.injEq] at hc
    obtain ⟨i,h1,z,h2,l,h3,ps,h4,rfl⟩:=hc
    simp only [astep,Option.map_eq_some_iff,Prod.mk.injEq] at hs
    obtain ⟨r,h5,rfl,rfl⟩:=hs
    exact ok_build hI hT hop ht hall h1 h2 h3 h4 h5
   ·cases hc
  ·cases hc
 ·next t len parts hop =>
  split at hc
  ·next E ht =>
   simp only [Option.bind_eq_some_iff,Option.ite_none_right_eq_some,Option.some.injEq] at hc
   obtain ⟨i,h1,z,h2,⟨h3,h4,h5,h6,h7⟩,ps,h8,hc⟩:=hc
   split at hc
   ·injection hc with hc; subst hc
    simp only [astep,Option.map_eq_some_iff,Prod.mk.injEq] at hs
    obtain ⟨r,h9,rfl,rfl⟩:=hs
    exact ok_mkr hI hT hop ht h1 h2 h3 h4 h5 h6 h7 h8 h9
   ·injection hc with hc; subst hc
    simp only [astep,Option.map_eq_some_iff,Prod.mk.injEq] at hs
    obtain ⟨r,h9,rfl,rfl⟩:=hs
    exact ok_mks hI hT hop ht h1 h2 h3 h4 h5 h6 h7 h8 h9
  ·cases hc
 ·next t p hop =>
  simp only [Option.bind_eq_some_iff,Option.ite_none_right_eq_some,Option.some.injEq] at hc
  obtain ⟨d,h1,i,h2,y,h3,h4,rfl⟩:=hc
  simp only [astep,Option.map_eq_some_iff,Prod.mk.injEq] at hs
  obtain ⟨r,h5,rfl,rfl⟩:=hs
  exact ok_load hI hop h1 h2 h4 (rep_opd hT h3) h5
 ·next t p x hop =>
  simp only [Option.bind_eq_some_iff,Option.some.injEq] at hc
  obtain ⟨i,h1,y,h2,z,h3,rfl⟩:=hc
  simp only [astep,Option.map_eq_some_iff,Prod.mk.injEq] at hs
  obtain ⟨r,h5,rfl,rfl⟩:=hs
  exact ok_store hI hop h1 (rep_opd hT h2) (rep_opd hT h3) h5
 ·next x hop =>
  simp only [Option.bind_eq_some_iff,Option.some.injEq] at hc
  obtain ⟨y,h1,rfl⟩:=hc
  simp only [astep] at hs
  have hx:=rep_opd hT h1
  split at hs
  ·next i p e =>
   simp only [Option.some.injEq,Prod.mk.injEq] at hs
   obtain ⟨rfl,rfl⟩:=hs
   rw [e] at hx
   exact ok_nilck hI hop hx (.inl ⟨_,_,rfl⟩)
  ·next l e =>
   simp only [Option.some.injEq,Prod.mk.injEq] at hs
   obtain ⟨rfl,rfl⟩:=hs
   rw [e] at hx
   exact ok_nilck hI hop hx (.inr ⟨_,rfl⟩)
  ·cases hs
 ·next op t x y yt hop =>
  split at hc
  ·simp only [Option.bind_eq_some_iff,Option.some.injEq] at hc
   obtain ⟨x',h1,y',h2,rfl⟩:=hc
   simp only [astep,Option.map_eq_some_iff,Prod.mk.injEq] at hs
   obtain ⟨r,h5,rfl,rfl⟩:=hs
   exact ok_bin hI hop (rep_opd hT h1) (rep_opd hT h2) h5
  ·simp only [Option.bind_eq_some_iff,Option.some.injEq] at hc
   obtain ⟨x',h1,y',h2,rfl⟩:=hc
   simp only [astep,Option.map_eq_some_iff,Prod.mk.injEq] at hs
   obtain ⟨r,h5,rfl,rfl⟩:=hs
   exact ok_bin hI hop (rep_opd hT h1) (rep_opd hT h2) h5
  ·next ht =>
   split at hc
   ·next hq =>
    simp only [Option.bind_eq_some_iff,Option.some.injEq] at hc
    obtain ⟨x',h1,y',h2,rfl⟩:=hc
    simp only [astep,Option.map_eq_some_iff,Prod.mk.injEq] at hs
    obtain ⟨r,h5,rfl,rfl⟩:=hs
    exact ok_eq hI hop hq (rep_opd hT h1) (rep_opd hT h2) (.inl ⟨rfl,ht⟩) h5
   ·cases hc
  ·next e ht =>
   split at hc
   ·next hq =>
    simp only [Option.bind_eq_some_iff,Option.some.injEq] at hc
    obtain ⟨x',h1,y',h2,rfl⟩:=hc
    simp only [astep,Option.map_eq_some_iff,Prod.mk.injEq] at hs
    obtain ⟨r,h5,rfl,rfl⟩:=hs
    exact ok_eq hI hop hq (rep_opd hT h1) (rep_opd hT h2) (.inr (.inl ⟨rfl,e,ht⟩)) h5
   ·cases hc
  ·next q e ht =>
   split at hc
   ·next hq =>
    simp only [Option.bind_eq_some_iff,Option.some.injEq] at hc
    obtain ⟨x',h1,y',h2,rfl⟩:=hc
    simp only [astep,Option.map_eq_some_iff,Prod.mk.injEq] at hs
    obtain ⟨r,h5,rfl,rfl⟩:=hs
    exact ok_eq hI hop hq (rep_opd hT h1) (rep_opd hT h2) (.inr (.inr (.inl ⟨rfl,q,e,ht⟩))) h5
   ·cases hc
  ·next fs ht =>
   split at hc
   ·next hq =>
    simp only [Option.bind_eq_some_iff,Option.some.injEq] at hc
    obtain ⟨ks,h0,x',h1,y',h2,rfl⟩:=hc
    simp only [astep,Option.map_eq_some_iff,Prod.mk.injEq] at hs
    obtain ⟨r,h5,rfl,rfl⟩:=hs
    exact ok_eq hI hop hq.1 (rep_opd hT h1) (rep_opd hT h2) (.inr (.inr (.inr ⟨rfl,fs,ht,hq.2.1,hq.2.2,h0⟩))) h5
   ·cases hc
  ·cases hc
 ·next op t x hop =>
  simp only [Option.bind_eq_some_iff,Option.some.injEq] at hc
  obtain ⟨y,h1,rfl⟩:=hc
  simp only [astep,Option.map_eq_some_iff,Prod.mk.injEq] at hs
  obtain ⟨r,h5,rfl,rfl⟩:=hs
  exact ok_un hI hop (rep_opd hT h1) h5
 ·next src dst x hop =>
  split at hc
  ·next k0 k hsrc hdst =>
   simp only [Option.bind_eq_some_iff,Option.some.injEq] at hc
   obtain ⟨y,h1,rfl⟩:=hc
   have hx:=rep_opd hT h1
   simp only [astep] at hs
   split at hs
   ·next j m e =>
    simp only [Option.some.injEq,Prod.mk.injEq] at hs
    obtain ⟨rfl,rfl⟩:=hs
    rw [e] at hx
    exact ok_conv hI hop hsrc hdst hx
   ·cases hs
  ·cases hc
 ·next f first caps hop =>
  split at hc
  ·next hb =>
   split at hc
   ·next hf =>
    simp only [Option.bind_eq_some_iff,Option.some.injEq] at hc
    obtain ⟨l,h1,rfl⟩:=hc
    simp only [astep,Option.some.injEq,Prod.mk.injEq] at hs
    obtain ⟨rfl,rfl⟩:=hs
    exact ok_mkfn hI hop hb (arr_of (by simpa using hf)) (rep_opds hT h1)
   ·split at hc
    ·next hf =>
     simp only [Option.bind_eq_some_iff,Option.some.injEq] at hc
     obtain ⟨l,h1,rfl⟩:=hc
     simp only [astep,Option.some.injEq,Prod.mk.injEq] at hs
     obtain ⟨rfl,rfl⟩:=hs
     exact ok_mkfb hI hop hb (arr_of (by simpa using hf)) (rep_opds hT h1)
    ·cases hc
  ·cases hc
 ·next t x lo hi mx hop =>
  split at hc
  ·next ht =>
   simp only [Option.bind_eq_some_iff,Option.some.injEq] at hc
   obtain ⟨y,h1,l,h2,k,h3,rfl⟩:=hc
   simp only [astep,Option.map_eq_some_iff,Prod.mk.injEq] at hs
   obtain ⟨r,h5,rfl,rfl⟩:=hs
   exact ok_ssl hI hT hop ht (rep_opd hT h1) h2 h3 h5
  ·next e ht =>
   simp only [Option.bind_eq_some_iff,Option.some.injEq] at hc
   obtain ⟨ie,h0,y,h1,l,h2,k,h3,rfl⟩:=hc
   simp only [astep,Option.map_eq_some_iff,Prod.mk.injEq] at hs
   obtain ⟨r,h5,rfl,rfl⟩:=hs
   exact ok_slsl hI hT hop ht h0 (rep_opd hT h1) h2 h3 h5
  ·cases hc
 ·next s x j hop =>
  split at hc
  ·next fs hsx =>
   simp only [Option.bind_eq_some_iff,Option.some.injEq,Option.ite_none_right_eq_some] at hc
   obtain ⟨f,h1,i,h2,h3,y,h4,rfl⟩:=hc
   have hx:=rep_opd hT h4
   simp only [astep] at hs
   split at hs
   ·next b p e =>
    simp only [Option.some.injEq,Prod.mk.injEq] at hs
    obtain ⟨rfl,rfl⟩:=hs
    exact ok_faddr hI hop hsx h1 h2 h3 hx (.inl ⟨b,p,e,rfl⟩)
   ·next l e =>
    simp only [Option.ite_none_right_eq_some,Option.some.injEq,Prod.mk.injEq] at hs
    obtain ⟨_,rfl,rfl⟩:=hs
    exact ok_faddr hI hop hsx h1 h2 h3 hx (.inr ⟨l,e,rfl⟩)
   ·cases hs
  ·cases hc
 ·next t x i hop =>
  split at hc
  ·next e ht =>
   simp only [Option.bind_eq_some_iff,Option.some.injEq] at hc
   obtain ⟨ie,h1,y,h2,z,h3,rfl⟩:=hc
   have hx:=rep_opd hT h2
   have hi:=rep_opd hT h3
   simp only [astep] at hs
   split at hs
   ·next W' ow rows k m e1 e2 =>
    simp only [Option.ite_none_right_eq_some,Option.some.injEq,Prod.mk.injEq] at hs
    obtain ⟨⟨h4,h5,rfl⟩,rfl,rfl⟩:=hs
    rw [e1] at hx; rw [e2] at hi
    exact ok_iaddr hI hop ht h1 hx hi h4 h5
   ·next b W' m' k m e1 e2 =>
    simp only [Option.ite_none_right_eq_some,Option.some.injEq,Prod.mk.injEq] at hs
    obtain ⟨⟨h4,h5,rfl⟩,rfl,rfl⟩:=hs
    rw [e1] at hx; rw [e2] at hi
    exact ok_iaddrB hI hop ht h1 hx hi h4 h5
   ·cases hs
  ·cases hc
 ·next t x i hop =>
  split at hc
  ·next ht =>
   simp only [Option.bind_eq_some_iff,Option.some.injEq] at hc
   obtain ⟨y,h2,z,h3,rfl⟩:=hc
   have hx:=rep_opd hT h2
   have hi:=rep_opd hT h3
   simp only [astep] at hs
   split at hs
   ·next l k m e1 e2 =>
    simp only [Option.ite_none_right_eq_some,Option.some.injEq,Prod.mk.injEq] at hs
    obtain ⟨⟨h4,h5⟩,rfl,rfl⟩:=hs
    rw [e1] at hx; rw [e2] at hi
    exact ok_sidx hI hop ht hx hi h4 h5
   ·cases hs
  ·cases hc
 ·next x i hop =>
  simp only [Option.bind_eq_some_iff,Option.some.injEq] at hc
  obtain ⟨y,h1,rfl⟩:=hc
  have hx:=rep_opd hT h1
  simp only [astep] at hs
  split at hs
  ·next l e =>
   simp only [Option.map_eq_some_iff,Prod.mk.injEq] at hs
   obtain ⟨r,h5,rfl,rfl⟩:=hs
   rw [e] at hx
   exact ok_extract hI hop hx h5
  ·cases hs
 ·next t hop =>
  split at hc
  ·next hm =>
   simp only [Option.some.injEq] at hc; subst hc
   simp only [astep,Option.some.injEq,Prod.mk.injEq] at hs
   obtain ⟨rfl,rfl⟩:=hs
   exact ok_mkmap hI hop
  ·cases hc
 ·next t m k ok hop =>
  split at hc
  ·next hm =>
   simp only [Option.bind_eq_some_iff,Option.some.injEq] at hc
   obtain ⟨z,h0,x',h1,y',h2,rfl⟩:=hc
   simp only [astep,Option.map_eq_some_iff,Prod.mk.injEq] at hs
   obtain ⟨r,h5,rfl,rfl⟩:=hs
   exact ok_mget hI hop hm h0 (rep_opd hT h1) (rep_opd hT h2) h5
  ·cases hc
 ·next t m k x hop =>
  split at hc
  ·next hm =>
   simp only [Option.bind_eq_some_iff,Option.some.injEq] at hc
   obtain ⟨x',h1,y',h2,z',h3,rfl⟩:=hc
   simp only [astep,Option.map_eq_some_iff,Prod.mk.injEq] at hs
   obtain ⟨r,h5,rfl,rfl⟩:=hs
   exact ok_mset hI hop hm (rep_opd hT h1) (rep_opd hT h2) (rep_opd hT h3) h5
  ·cases hc
 ·next c hop =>
  unfold compCall at hc
  split at hc
  ·simp only [Option.bind_eq_some_iff,Option.some.injEq,Option.ite_none_right_eq_some] at hc
   obtain ⟨_,l,h1,rfl⟩:=hc
   simp [astep] at hs
  ·simp only [Option.bind_eq_some_iff,Option.some.injEq,Option.ite_none_right_eq_some] at hc
   obtain ⟨_,l,h1,rfl⟩:=hc
   simp [astep] at hs
  ·next hcal =>
   split at hc
   ·next x T ha hTy =>
    split at hc
    ·next ht =>
     simp only [Option.bind_eq_some_iff,Option.some.injEq] at hc
     obtain ⟨y,h1,rfl⟩:=hc
     have hx:=rep_opd hT h1
     simp only [astep] at hs
     split at hs
     ·next l _ e =>
      simp only [Option.some.injEq,Prod.mk.injEq] at hs
      obtain ⟨rfl,rfl⟩:=hs
      exact ok_len hI hop hcal (arr_of ha) (arr_of hTy) hx (.inl ⟨ht,l,e,rfl⟩)
     ·next hf _=>cases hf
     ·next hf _=>cases hf
     ·cases hs
    ·next e' ht =>
     simp only [Option.bind_eq_some_iff,Option.some.injEq] at hc
     obtain ⟨y,h1,rfl⟩:=hc
     have hx:=rep_opd hT h1
     simp only [astep] at hs
     split at hs
     ·next hf _=>cases hf
     ·next W ow rows _ e =>
      simp only [Option.some.injEq,Prod.mk.injEq] at hs
      obtain ⟨rfl,rfl⟩:=hs
      exact ok_len hI hop hcal (arr_of ha) (arr_of hTy) hx (.inr (.inl ⟨e',ht,W,ow,rows,e,rfl⟩))
     ·next b W m _ e =>
      simp only [Option.some.injEq,Prod.mk.injEq] at hs
      obtain ⟨rfl,rfl⟩:=hs
      exact ok_len hI hop hcal (arr_of ha) (arr_of hTy) hx (.inr (.inr ⟨e',ht,b,W,e⟩))
     ·cases hs
    ·next q e' ht =>
     simp only [Option.bind_eq_some_iff,Option.some.injEq] at hc
     obtain ⟨y,h1,rfl⟩:=hc
     simp only [astep,Option.map_eq_some_iff,Prod.mk.injEq] at hs
     obtain ⟨r,h5,rfl,rfl⟩:=hs
     exact ok_mlen (t:=T) hI hop hcal (arr_of ha) (arr_of hTy) ht (rep_opd hT h1) h5
    ·cases hc
   ·cases hc
  ·next hcal =>
   split at hc
   ·next x y T T' ha hTy =>
    split at hc
    ·next hTT =>
     subst hTT
     split at hc
     ·next E ht =>
      simp only [Option.bind_eq_some_iff,Option.some.injEq,Option.ite_none_right_eq_some] at hc
      obtain ⟨i,h1,z,h2,⟨h3,h4⟩,x',h5,y',h6,rfl⟩:=hc
      simp only [astep] at hs
      exact ok_app hI hop hcal (arr_of ha) (arr_of hTy) ht h1 h2 h3 h4 (rep_opd hT h5) (rep_opd hT h6) hs
     ·cases hc
    ·cases hc
   ·cases hc
  ·next hcal =>
   split at hc
   ·next x y T Ts ha hTy =>
    split at hc
    ·next hm =>
     simp only [Option.bind_eq_some_iff,Option.some.injEq] at hc
     obtain ⟨x',h1,y',h2,rfl⟩:=hc
     simp only [astep,Option.map_eq_some_iff,Prod.mk.injEq] at hs
     obtain ⟨r,h5,rfl,rfl⟩:=hs
     exact ok_mdel hI hop hcal (arr_of ha) hTy hm (rep_opd hT h1) (rep_opd hT h2) h5
    ·cases hc
   ·cases hc
  ·next hcal =>
   split at hc
   ·next x T Ts ha hTy =>
    split at hc
    ·next hm =>
     simp only [Option.bind_eq_some_iff,Option.some.injEq] at hc
     obtain ⟨x',h1,rfl⟩:=hc
     simp only [astep,Option.map_eq_some_iff,Prod.mk.injEq] at hs
     obtain ⟨r,h5,rfl,rfl⟩:=hs
     exact ok_mclr hI hop hcal (arr_of ha) hTy hm (rep_opd hT h1) h5
    ·cases hc
   ·cases hc
  ·next hcal =>
   split at hc
   ·next x y z ha =>
    simp only [Option.bind_eq_some_iff,Option.some.injEq] at hc
    obtain ⟨x',h1,y',h2,z',h3,rfl⟩:=hc
    have hx:=rep_opd hT h1
    have hy:=rep_opd hT h2
    have hz:=rep_opd hT h3
    simp only [astep] at hs
    split at hs
    ·next k a' _ b' _ c' e1 e2 e3 =>
     simp only [Option.some.injEq,Prod.mk.injEq] at hs
     obtain ⟨rfl,rfl⟩:=hs
     rw [e1] at hx; rw [e2] at hy; rw [e3] at hz
     exact ok_max3 hI hop hcal (arr_of ha) hx hy hz
    ·cases hs
   ·next x y ha =>
    simp only [Option.bind_eq_some_iff,Option.some.injEq] at hc
    obtain ⟨x',h1,y',h2,rfl⟩:=hc
    have hx:=rep_opd hT h1
    have hy:=rep_opd hT h2
    simp only [astep] at hs
    split at hs
    ·next k a' _ b' e1 e2 =>
     simp only [Option.some.injEq,Prod.mk.injEq] at hs
     obtain ⟨rfl,rfl⟩:=hs
     rw [e1] at hx; rw [e2] at hy
     exact ok_mm (mx:=true) hI hop hcal (arr_of ha) hx hy
    ·cases hs
   ·cases hc
  ·next hcal =>
   split at hc
   ·next x y ha =>
    simp only [Option.bind_eq_some_iff,Option.some.injEq] at hc
    obtain ⟨x',h1,y',h2,rfl⟩:=hc
    have hx:=rep_opd hT h1
    have hy:=rep_opd hT h2
    simp only [astep] at hs
    split at hs
    ·next k a' _ b' e1 e2 =>
     simp only [Option.some.injEq,Prod.mk.injEq] at hs
     obtain ⟨rfl,rfl⟩:=hs
     rw [e1] at hx; rw [e2] at hy
     exact ok_mm (mx:=false) hI hop hcal (arr_of ha) hx hy
    ·cases hs
   ·cases hc
  ·cases hc
 ·cases hc
end
end AX
end Go.Proofs.YtdgcbckcameggaaGreatDoor

namespace Go.Proofs.YtdgcbckcameggaaGreatDoor
open Go.RowKit
namespace AX
inductive AExit where
 | normal
 | exit (id:Nat)
 | ret
abbrev Ts:=Nat→A
def put (ts:Ts) (d:Option Nat) (v:A):Ts:=
 match d with
 | some d=>fun i=>if i=d then v else ts i
 | none=>ts
def condP:A→Prop→Prop→Prop
 | .bool t,p,q=>(t=true→p)∧(t=false→q)
 | _,_,_=>False
def guardP (ts:Ts):Option (Nat×Bool)→Prop→Prop→Prop
 | none,p,_=>p
 | some (t,b),p,q =>
  match ts t with
  | .bool c=>(c=b→p)∧(c=!b→q)
  | .tup []=>q
  | _=>False
def optP:Option (A×Hp)→(A→Hp→Prop)→Prop
 | some (v,h),K=>K v h
 | none,_=>False
def vF (f:FuncId):FuncId:=if f < bmk then f else f % bmk
def vA {α:Type} (f:FuncId) (as caps:List α):List α:=if f < bmk then as++caps else caps++as
def aopP (P:Program) (G:World→Prop) (ev:Opd→A) (h:Hp) (K:A→Hp→Prop):AOp→Prop
 | .call f args=>ACall P G f (args.map ev) h K
 | .callv x args=>∃ f caps,ev x = .fn f caps∧callOk P (vF f)=true∧ACall P G (vF f) (vA f (args.map ev) caps) h K
 | op=>optP (astep ev h op) K
def aops (P:Program) (G:World→Prop):List AOper→(Ts→Hp→Prop)→Ts→Hp→Prop
 | [],K,ts,h=>K ts h
 | o::os,K,ts,h=>guardP ts o.guard (aopP P G (evX ts) h (fun v h'=>aops P G os K (put ts o.dst v) h') o.op) (aops P G os K (put ts o.dst (.tup [])) h)
section
variable {P:Program} {G:World→Prop} {C:Ctx} {a:Act} {o:Oper} {h:Hp} {ts:Ts} {n:Nat}
theorem RepT.ext {C':Ctx} (hT:RepT C ts n a) (he:Ext C C'):RepT C' ts n a:=⟨hT.size,fun i hi=>Rep.ext he _ _ (hT.rep i hi)⟩
theorem RepT.put {dst:Option Tmp} {v:A} {cv:Value} (hT:RepT C ts n a) (hd:compDst n dst=true) (hv:Rep C v cv):RepT C (put ts dst v) n (a.put dst cv):=by
 cases dst with
 | none=>exact hT
 | some d =>
  have hd':d < n:=by simpa [compDst] using hd
  refine ⟨by simp [Act.put,hT.size],fun i hi=>?_⟩
  show Rep C (if i=d then v else ts i) ((a.tmps.setIfInBounds d cv).getD i undef)
  by_cases e:i=d
  ·subst e
   rw [if_pos rfl]
   simpa [hT.size,hd'] using hv
  ·rw [if_neg e]
   have:=hT.rep i hi
   rw [Array.getD_eq_getD_getElem?] at this ⊢
   rwa [Array.getElem?_setIfInBounds_ne (fun h=>e h.symm)]
theorem put_defers {dst:Option Tmp} {v:Value}:(a.put dst v).defers=a.defers:=by cases dst <;> rfl
theorem run_callOk {f:FuncId} (w:World) (args:Array Value) (hf:callOk P f=true):(callFunc f args).run P w = .ok (.enter f args) w:=by
 unfold callOk at hf
 split at hf
 ·next fn hfn =>
  rw [Bool.and_eq_true] at hf
  obtain ⟨h1,h2⟩:=hf
  unfold callFunc
  have h3 : (fn.name == "runtime.NumGoroutine") = false := by simpa using h1
  have h4:fn.body.isNone=false:=by cases hb:fn.body <;> simp_all
  simp only [Sem.run_bind,run_program,Result.andThen_ok,hfn,h3,h4,Bool.false_eq_true,if_false,Sem.run_pure]
 ·cases hf
def AOp.isCall:AOp→Bool
 | .call ..=>true
 | .callv ..=>true
 | _=>false
theorem comp_call {r:AOp} (hc:compOp P n o=some r) (hr:r.isCall=true):∃ c,o.op = .call c∧compCall P n c o.type=some r:=by
 unfold compOp at hc
 split at hc
 case h_23 c hop=>exact ⟨c,hop,hc⟩
 all_goals
  exfalso
  cases r <;> simp only [AOp.isCall,Bool.false_eq_true] at hr
  all_goals
   revert hc
   repeat' split
   all_goals simp [Option.bind_eq_some_iff]
theorem aop_wp {ao:AOp} {K:A→Hp→Prop} {next:Act→World→Prop} {Q:Exit→Act→World→Prop} (hI:Inv G C h) (hT:RepT C ts n a) (hc:compOp P n o=some ao) (hk:aopP P G (evX ts) h K ao)
  (hn:∀ (C':Ctx) (h':Hp) (v:A) (cv:Value),Inv G C' h'→Step C C'→Rep C' v cv→K v h'→next (a.put o.dst cv) C'.w):o.wp P a C.w next Q:=by
 have plain:optP (astep (evX ts) h ao) K→o.wp P a C.w next Q:=fun hk=>by
  cases hs:astep (evX ts) h ao with
  | none=>rw [hs] at hk; exact hk.elim
  | some r =>
   obtain ⟨v,h'⟩:=r
   rw [hs] at hk
   obtain ⟨C',cv,hr,h1,h2,h3⟩:=step_ok hI hT hc hs
   unfold Oper.wp
   rcases hr with hr | ⟨hr,rfl⟩
   ·rw [hr]; exact hn C' h' v cv h1 h2 h3 hk
   ·rw [hr]; exact hn C' h' v undef h1 h2 h3 hk
 have called:∀ (f:FuncId) (as:List A) (cs:List Value),RepL C as cs→ACall P G f as h K→(execOp a.eval o).run P C.w = .ok (.enter f cs.toArray) C.w→o.wp P a C.w next Q:=fun f as cs hl hcall hr=>by
  unfold Oper.wp
  rw [hr,Oper.upon_enter]
  refine (hcall C cs hI hl).mono ?_
  rintro e w' ⟨C',h',v,cv,rfl,rfl,h1,h2,h3,h4⟩
  exact hn C' h' v cv h1 h2 h3 h4
 cases ao with
 | call f args =>
  obtain ⟨c,hop,hcc⟩:=comp_call hc rfl
  unfold compCall at hcc
  split at hcc
  ·next g hcal =>
   simp only [Option.ite_none_right_eq_some,Option.bind_eq_some_iff,Option.some.injEq,AOp.call.injEq] at hcc
   obtain ⟨hok,l,h1,rfl,rfl⟩:=hcc
   refine called g _ _ (rep_opds hT h1) hk ?_
   unfold execOp
   have e:c.args.map a.eval=(c.args.toList.map a.eval).toArray:=Array.toList_inj.1 (by simp)
   simp only [hop,resolve,hcal,Deferred.ofValue,Act.eval,Sem.run_bind,Sem.run_pure,Result.andThen_ok,invoke,Array.append_empty,Array.empty_append,e]
   exact run_callOk C.w _ hok
  ·simp only [Option.ite_none_right_eq_some,Option.bind_eq_some_iff,Option.some.injEq,reduceCtorEq,and_false,exists_false] at hcc
  ·exfalso
   revert hcc
   repeat' split
   all_goals simp [Option.bind_eq_some_iff]
  ·exfalso
   revert hcc
   repeat' split
   all_goals simp [Option.bind_eq_some_iff]
  ·exfalso
   revert hcc
   repeat' split
   all_goals simp [Option.bind_eq_some_iff]
  ·exfalso
   revert hcc
   repeat' split
   all_goals simp [Option.bind_eq_some_iff]
  ·exfalso
   revert hcc
   repeat' split
   all_goals simp [Option.bind_eq_some_iff]
  ·exfalso
   revert hcc
   repeat' split
   all_goals simp [Option.bind_eq_some_iff]
  ·cases hcc
 | callv x args =>
  obtain ⟨f,caps,hx,hok,hk⟩:=hk
  obtain ⟨c,hop,hcc⟩:=comp_call hc rfl
  unfold compCall at hcc
  split at hcc
  ·simp only [Option.ite_none_right_eq_some,Option.bind_eq_some_iff,Option.some.injEq,reduceCtorEq,and_false,exists_false] at hcc
  ·next t hcal =>
   simp only [Option.ite_none_right_eq_some,Option.bind_eq_some_iff,Option.some.injEq,AOp.callv.injEq] at hcc
   obtain ⟨hlt,l,h1,rfl,rfl⟩:=hcc
   have hf:Rep C (.fn f caps) (a.eval (.tmp t)):=by
    rw [←hx]; exact hT.rep t hlt
   obtain ⟨cs,hev,hcs⟩:=rep_fn.1 hf
   by_cases hb:f < bmk
   ·unfold vF at hok hk
    unfold vA at hk
    unfold fnV at hev
    rw [if_pos hb] at hok hev
    rw [if_pos hb,if_pos hb] at hk
    refine called f _ _ (repL_append (rep_opds hT h1) hcs) hk ?_
    unfold execOp
    have e:c.args.map a.eval=(c.args.toList.map a.eval).toArray:=Array.toList_inj.1 (by simp)
    have e2:(c.args.toList.map a.eval).toArray++cs.toArray=(c.args.toList.map a.eval++cs).toArray:=Array.toList_inj.1 (by simp)
    simp only [hop,resolve,hcal,Sem.run_bind,e]
    rw [hev]
    simp only [Deferred.ofValue,Sem.run_pure,Result.andThen_ok,invoke,Array.empty_append,e2]
    exact run_callOk C.w _ hok
   ·unfold vF at hok hk
    unfold vA at hk
    unfold fnV at hev
    rw [if_neg hb] at hok hev
    rw [if_neg hb,if_neg hb] at hk
    refine called (f % bmk) _ _ (repL_append hcs (rep_opds hT h1)) hk ?_
    unfold execOp
    have e:c.args.map a.eval=(c.args.toList.map a.eval).toArray:=Array.toList_inj.1 (by simp)
    have e2:cs.toArray++(c.args.toList.map a.eval).toArray=(cs++c.args.toList.map a.eval).toArray:=Array.toList_inj.1 (by simp)
    simp only [hop,resolve,hcal,Sem.run_bind,e]
    rw [hev]
    simp only [Deferred.ofValue,Sem.run_pure,Result.andThen_ok,invoke,Array.append_empty,e2]
    exact run_callOk C.w _ hok
  ·exfalso
   revert hcc
   repeat' split
   all_goals simp [Option.bind_eq_some_iff]
  ·exfalso
   revert hcc
   repeat' split
   all_goals simp [Option.bind_eq_some_iff]
  ·exfalso
   revert hcc
   repeat' split
   all_goals simp [Option.bind_eq_some_iff]
  ·exfalso
   revert hcc
   repeat' split
   all_goals simp [Option.bind_eq_some_iff]
  ·exfalso
   revert hcc
   repeat' split
   all_goals simp [Option.bind_eq_some_iff]
  ·exfalso
   revert hcc
   repeat' split
   all_goals simp [Option.bind_eq_some_iff]
  ·cases hcc
 | _=>exact plain hk
theorem mks_of {W E:Nat} {ps:List Opd} {t len:Nat} {parts:Array (Nat×Operand)} (h0:compOp P n o=some (.mks W ps)) (hop:o.op = .buildSlice t len parts) (ht:P.underlying t=some (.slice E)) :
  ∃ it z,P.info? E=some it∧it.zero=some z∧z.cells.size=it.size∧0 < it.size∧parts.toList.length=len∧0 < len∧len*it.size≤1000∧compRow n 0 parts.toList=some ps∧W=it.size:=by
 unfold compOp at h0
 rw [hop] at h0
 simp only [ht,Option.bind_eq_some_iff,Option.ite_none_right_eq_some] at h0
 obtain ⟨i,h1,z,h2,⟨h3,h4,h5,h6,h7⟩,ps',h8,h9⟩:=h0
 split at h9
 ·cases h9
 ·injection h9 with h9
  injection h9 with e1 e2
  subst e1; subst e2
  exact ⟨i,z,h1,h2,h3,h4,h5,h6,h7,h8,rfl⟩
theorem aop_wp' {os:List Oper} {ao:AOp} {K:A→Hp→Prop} {next:Act→World→Prop} {Q:Exit→Act→World→Prop} (hI:Inv G C h) (hT:RepT C ts n a) (hc:compOp' P n os o=some ao) (hk:aopP P G (evX ts) h K ao)
  (hn:∀ (C':Ctx) (h':Hp) (v:A) (cv:Value),Inv G C' h'→Step C C'→Rep C' v cv→K v h'→next (a.put o.dst cv) C'.w):o.wp P a C.w next Q:=by
 unfold compOp' at hc
 split at hc
 ·next hlit =>
  rw [Option.map_eq_some_iff] at hc
  obtain ⟨ao0,h0,rfl⟩:=hc
  unfold litA at hk
  split at hk
  ·next W ps =>
   split at hk
   ·next t len parts hop =>
    split at hk
    ·next E ht =>
     obtain ⟨it,z,h1,h2,h3,h4,h5,h6,h7,h8,rfl⟩:=mks_of h0 hop ht
     simp only [aopP,astep] at hk
     cases hr:rowsA (evX ts) it.size ps with
     | none=>rw [hr] at hk; exact hk.elim
     | some rows =>
      rw [hr] at hk
      obtain ⟨C',cv,hr',k1,k2,k3⟩:=ok_mkl (G:=G) hI hT hop ht h1 h2 h3 h4 h5 h6 h7 h8 hr
      unfold Oper.wp
      rcases hr' with hr' | ⟨hr',rfl⟩
      ·rw [hr']; exact hn C' _ _ cv k1 k2 k3 hk
      ·rw [hr']; exact hn C' _ _ undef k1 k2 k3 hk
    ·exact aop_wp hI hT h0 hk hn
   ·exact aop_wp hI hT h0 hk hn
  ·exact aop_wp hI hT h0 hk hn
 ·exact aop_wp hI hT hc hk hn
end
end AX
end Go.Proofs.YtdgcbckcameggaaGreatDoor

namespace Go.Proofs.YtdgcbckcameggaaGreatDoor
open Go.RowKit
namespace AX
section
variable {P:Program} {G:World→Prop}
theorem guardP_mono {ts:Ts} {g:Option (Nat×Bool)} {p p' q q':Prop} (hp:p→p') (hq:q→q') (h:guardP ts g p q):guardP ts g p' q':=by
 unfold guardP at *
 split at h
 ·exact hp h
 ·split at h
  ·exact ⟨fun e=>hp (h.1 e),fun e=>hq (h.2 e)⟩
  ·exact hq h
  ·exact h.elim
theorem optP_mono {r:Option (A×Hp)} {K K':A→Hp→Prop} (hk:∀ v h,K v h→K' v h) (h:optP r K):optP r K':=by
 cases r with
 | none=>exact h
 | some r=>exact hk _ _ h
theorem aopP_mono {ev:Opd→A} {h:Hp} {K K':A→Hp→Prop} (hk:∀ v h,K v h→K' v h) {o:AOp} (hp:aopP P G ev h K o):aopP P G ev h K' o:=by
 cases o with
 | call f args=>exact ACall.mono hp hk
 | callv x args =>
  obtain ⟨f,caps,h1,h2,h3⟩:=hp
  exact ⟨f,caps,h1,h2,ACall.mono h3 hk⟩
 | _=>simp only [aopP] at hp ⊢; exact optP_mono hk hp
end
def TD (ops:List AOper) (vals:Nat→A) (ts:Ts) (D:Nat→Bool):Ts:=fun x =>
 match ops.findIdx? (fun o=>o.dst == some x) with
 | some j=>if D j=true then vals j else ts x
 | none=>ts x
def Closed (ops:List AOper) (D:Nat→Bool):Prop:=∀ j o,ops[j]?=some o→D j=true→∀ k∈o.after,D k=true
def adraw (P:Program) (G:World→Prop) (ops:List AOper) (K:Ts→Hp→Prop) (ts:Ts) (h:Hp):Prop:=
 ∃ I:(Nat→Bool)→Ts→Hp→Prop,I (fun _=>false) ts h ∧
  (∀ D i o ts h,I D ts h→ops[i]?=some o→D i=false→Closed ops D→(∀ j∈o.after,D j=true) →
   guardP ts o.guard (aopP P G (evX ts) h (fun v h'=>I (fun j=>j == i||D j) (put ts o.dst v) h') o.op) (I (fun j=>j == i||D j) (put ts o.dst (.tup [])) h)) ∧
  ∀ ts h,I (fun j=>decide (j < ops.length)) ts h→K ts h
def edgesB:Nat→List AOper→Bool
 | _,[]=>true
 | i,o::os=>o.after.all (fun j=>decide (j < i))&&(match o.dst with | none=>true | some d=>os.all fun o'=>o'.dst != some d)&&edgesB (i+1) os
inductive AExit.Is:AExit→Exit→Prop
 | normal:AExit.Is .normal .normal
 | exit (id:Nat):AExit.Is (.exit id) (.exit id)
 | ret:AExit.Is .ret .ret
def thenA (next:Ts→Hp→Prop) (Q:AExit→Ts→Hp→Prop):AExit→Ts→Hp→Prop
 | .normal=>next
 | e=>Q e
def blkA (id:Nat) (Q:AExit→Ts→Hp→Prop):AExit→Ts→Hp→Prop
 | .exit id'=>fun ts h=>if id'=id then Q .normal ts h else Q (.exit id') ts h
 | e=>Q e
def aloop (body:(AExit→Ts→Hp→Prop)→Ts→Hp→Prop) (Q:AExit→Ts→Hp→Prop):Nat→Ts→Hp→Prop
 | 0=>fun _ _=>False
 | k+1=>body (thenA (aloop body Q k) Q)
def Post (G:World→Prop) (C0:Ctx) (n:Nat) (Q:AExit→Ts→Hp→Prop) (e:Exit) (a:Act) (w:World):Prop:=
 ∃ (C:Ctx) (ts:Ts) (h:Hp) (ae:AExit),ae.Is e∧C.w=w∧Inv G C h∧Step C0 C∧RepT C ts n a∧a.defers=[]∧Q ae ts h
def awp (P:Program) (G:World→Prop):ACode→(AExit→Ts→Hp→Prop)→Ts→Hp→Prop
 | .skip,Q=>Q .normal
 | .reg false ops,Q=>aops P G ops (Q .normal)
 | .reg true ops,Q=>fun ts h=>edgesB 0 ops=true∧adraw P G ops (Q .normal) ts h
 | .seq x y,Q=>awp P G x (thenA (awp P G y Q) Q)
 | .cond c x y,Q=>fun ts h=>condP (evX ts c) (awp P G x Q ts h) (awp P G y Q ts h)
 | .block id c,Q=>awp P G c (blkA id Q)
 | .loop c,Q=>fun ts h=>∃ k,aloop (awp P G c) Q k ts h
 | .exit id,Q=>Q (.exit id)
 | .ret,Q=>Q .ret
 | .prim n c,Q=>fun ts h=>∀ (C:Ctx) (a:Act),Inv G C h→RepT C ts n a→a.defers=[]→c.wp P (Post G C n Q) a C.w
section
variable {P:Program} {G:World→Prop} {n:Nat} {C0:Ctx}
theorem guard_cases {C:Ctx} {ts:Ts} {a:Act} {o:Oper} {ops:Array Oper} {g:Option (Nat×Bool)} {p q:Prop} (hT:RepT C ts n a) (hg:compGuard n ops o.guard=some g) (hp:guardP ts g p q) :
  (Region.wanted o (yielded ops a.tmps)=true∧p)∨(Region.wanted o (yielded ops a.tmps)=false∧q):=by
 cases hog:o.guard with
 | none =>
  rw [hog] at hg
  simp only [compGuard,Option.some.injEq] at hg
  subst hg
  exact .inl ⟨by simp [Region.wanted,hog],hp⟩
 | some jb =>
  obtain ⟨j,b⟩:=jb
  rw [hog] at hg
  simp only [compGuard,Option.bind_eq_some_iff,Option.ite_none_right_eq_some,Option.some.injEq] at hg
  obtain ⟨t,⟨oj,h1,h2⟩,h3,rfl⟩:=hg
  have hr:=hT.rep t h3
  have hlt:t < a.tmps.size:=by rw [hT.size]; exact h3
  have hy:yielded ops a.tmps j=match a.tmps.getD t undef with | .bool b=>some b | _=>none:=by
   unfold yielded
   rw [h1,Option.bind_some,h2,Option.bind_some]
   rw [Array.getElem?_eq_getElem hlt]
   rw [show a.tmps.getD t undef=a.tmps[t] by rw [Array.getD_eq_getD_getElem?,Array.getElem?_eq_getElem hlt]; rfl]
   cases a.tmps[t] <;> rfl
  simp only [guardP] at hp
  unfold Region.wanted
  rw [hog]
  simp only [hy]
  split at hp
  ·next c e =>
   rw [e,rep_bool] at hr
   rw [hr]
   by_cases hcb:c=b
   ·exact .inl ⟨by simp [hcb],hp.1 hcb⟩
   ·exact .inr ⟨by simp [hcb],hp.2 (by cases c <;> cases b <;> simp_all)⟩
  ·next e =>
   rw [e] at hr
   obtain ⟨cs,h4,h5⟩:=rep_tup.1 hr
   rw [repL_nil] at h5; subst h5
   rw [h4]
   exact .inr ⟨by simp,hp⟩
  ·exact hp.elim
theorem rep_undef {C:Ctx}:Rep C (.tup []) undef:=rep_tup.2 ⟨[],rfl,repL_nil.2 rfl⟩
theorem aops_sound {ops:Array Oper} {draw:Bool} {K:Ts→Hp→Prop} {Q:Exit→Act→World→Prop} (hK:∀ (C:Ctx) (ts:Ts) (h:Hp) (a:Act),Inv G C h→Step C0 C→RepT C ts n a→a.defers=[]→K ts h→Q .normal a C.w) :
  ∀ (os:List Oper) (l:List AOper),compOpers P n draw ops os=some l→∀ (C:Ctx) (ts:Ts) (h:Hp) (a:Act),Inv G C h→Step C0 C→RepT C ts n a→a.defers=[]→aops P G l K ts h→wpList P ops Q os a C.w
 | [],l,hc,C,ts,h,a,hI,hS,hT,hd,hk=>by
  simp only [compOpers,Option.some.injEq] at hc; subst hc
  exact hK C ts h a hI hS hT hd hk
 | o::os,l,hc,C,ts,h,a,hI,hS,hT,hd,hk=>by
  simp only [compOpers,Option.ite_none_right_eq_some,Option.bind_eq_some_iff,Option.some.injEq] at hc
  obtain ⟨hdst,ao,h1,g,h2,l',h3,rfl⟩:=hc
  simp only [aops] at hk
  have ih:=aops_sound hK os l' h3
  unfold wpList
  rcases guard_cases hT h2 hk with ⟨hw,hk⟩ | ⟨hw,hk⟩
  ·rw [if_pos hw]
   refine .inl (aop_wp' hI hT h1 hk fun C' h' v cv k1 k2 k3 k4=>?_)
   exact ih C' _ h' _ k1 (hS.trans k2) ((hT.ext k2.ext).put hdst k3) (by rw [put_defers]; exact hd) k4
  ·rw [if_neg (by simp [hw])]
   exact ih C _ h _ hI hS (hT.put hdst rep_undef) (by rw [put_defers]; exact hd) hk
theorem edgesB_after:∀ {ops:List AOper} {k:Nat},edgesB k ops=true→∀ i o,ops[i]?=some o→∀ j∈o.after,j < k+i
 | [],k,h,i,o,hi=>by simp at hi
 | x::ops,k,h,0,o,hi=>by
  simp only [edgesB,Bool.and_eq_true,List.all_eq_true,decide_eq_true_eq] at h
  simp at hi; subst hi
  intro j hj
  simpa using h.1.1 j hj
 | x::ops,k,h,i+1,o,hi=>by
  simp only [edgesB,Bool.and_eq_true] at h
  intro j hj
  have:=edgesB_after h.2 i o (by simpa using hi) j hj
  omega
theorem edgesB_dst:∀ {ops:List AOper} {k:Nat},edgesB k ops=true→∀ (i:Nat) (o:AOper) (d:Nat),ops[i]?=some o→o.dst=some d→ops.findIdx? (fun o=>o.dst == some d)=some i
 | [],k,h,i,o,d,hi,hd=>by simp at hi
 | x::ops,k,h,0,o,d,hi,hd=>by
  simp at hi; subst hi
  simp [List.findIdx?_cons,hd]
 | x::ops,k,h,i+1,o,d,hi,hd=>by
  simp only [edgesB,Bool.and_eq_true] at h
  have hi':ops[i]?=some o:=by simpa using hi
  have:=edgesB_dst h.2 i o d hi' hd
  rw [List.findIdx?_cons]
  have hx:(x.dst == some d)=false:=by
   cases hxd:x.dst with
   | none=>rfl
   | some e =>
    have h2:=h.1.2
    rw [hxd] at h2
    simp only [List.all_eq_true,bne_iff_ne,ne_eq] at h2
    have:=h2 o (List.mem_of_getElem? hi')
    rw [hd] at this
    simp only [Option.some.injEq] at this
    simp only [beq_eq_false_iff_ne,ne_eq,Option.some.injEq]
    exact fun e'=>this e'.symm
  rw [hx,this]
  simp
theorem compOpers_get {draw:Bool} {ops:Array Oper}:∀ {os:List Oper} {l:List AOper},compOpers P n draw ops os=some l→l.length=os.length∧∀ (i:Nat) (o:Oper),os[i]?=some o→∃ ao g,l[i]?=some ⟨o.dst,ao,g,if draw then afterOf o else []⟩∧compDst n o.dst=true∧compOp' P n ops.toList o=some ao∧compGuard n ops o.guard=some g
 | [],l,hc=>by
  simp only [compOpers,Option.some.injEq] at hc; subst hc
  exact ⟨rfl,fun i o hi=>by simp at hi⟩
 | x::os,l,hc=>by
  simp only [compOpers,Option.ite_none_right_eq_some,Option.bind_eq_some_iff,Option.some.injEq] at hc
  obtain ⟨hdst,ao,h1,g,h2,l',h3,rfl⟩:=hc
  obtain ⟨ih1,ih2⟩:=compOpers_get h3
  refine ⟨by simp [ih1],fun i o hi=>?_⟩
  cases i with
  | zero =>
   simp at hi; subst hi
   exact ⟨ao,g,rfl,hdst,h1,h2⟩
  | succ i=>exact ih2 i o (by simpa using hi)
theorem afterOf_mem {o:Oper} {j:Nat}:j∈afterOf o↔∃ e∈o.after,Region.binds .any e=true∧e.on=j:=by
 unfold afterOf
 rw [List.mem_filterMap]
 constructor
 ·rintro ⟨e,h1,h2⟩
  split at h2
  ·next hb=>injection h2 with h2; exact ⟨e,by simpa using h1,hb,h2⟩
  ·cases h2
 ·rintro ⟨e,h1,h2,h3⟩
  exact ⟨e,by simpa using h1,by rw [if_pos h2,h3]⟩
theorem put_TD {l:List AOper} (he:edgesB 0 l=true) {vals:Nat→A} {ts:Ts} {D:Nat→Bool} {i:Nat} {o:AOper} (k1:l[i]?=some o) :
  put (TD l vals ts D) o.dst (vals i)=TD l vals ts (fun j=>j == i||D j):=by
  funext x
  cases hd':o.dst with
  | none =>
   show TD l vals ts _ x=_
   unfold TD
   cases hf:l.findIdx? (fun o=>o.dst == some x) with
   | none=>rfl
   | some j =>
    have hji:j≠i:=fun e=>by
     subst e
     obtain ⟨hj,hj2,_⟩:=List.findIdx?_eq_some_iff_getElem.1 hf
     rw [List.getElem?_eq_getElem hj] at k1
     injection k1 with k1
     rw [k1,hd'] at hj2
     simp at hj2
    simp [hji]
  | some d =>
   show (if x=d then vals i else TD l vals ts _ x)=_
   have hfd:=edgesB_dst he i _ d k1 hd'
   by_cases e:x=d
   ·subst e
    rw [if_pos rfl]
    unfold TD
    rw [hfd]
    simp
   ·rw [if_neg e]
    unfold TD
    cases hf:l.findIdx? (fun o=>o.dst == some x) with
    | none=>rfl
    | some j =>
     have hji:j≠i:=fun e'=>by
      subst e'
      obtain ⟨hj,hj2,_⟩:=List.findIdx?_eq_some_iff_getElem.1 hf
      rw [List.getElem?_eq_getElem hj] at k1
      injection k1 with k1
      rw [k1,hd'] at hj2
      simp at hj2
      exact e hj2.symm
     simp [hji]
theorem adraw_of {P:Program} {G:World→Prop} {ops:List AOper} {K:Ts→Hp→Prop} {ts:Ts} {h:Hp} (he:edgesB 0 ops=true) (vals:Nat→A) (HD:(Nat→Bool)→Hp) (h0:HD (fun _=>false)=h)
  (hop:∀ D i o,ops[i]?=some o→D i=false→Closed ops D→(∀ j∈o.after,D j=true) →
   guardP (TD ops vals ts D) o.guard (aopP P G (evX (TD ops vals ts D)) (HD D) (fun v h'=>v=vals i∧h'=HD (fun j=>j == i||D j)) o.op) (vals i = .tup []∧HD (fun j=>j == i||D j)=HD D))
  (hfin:K (TD ops vals ts fun j=>decide (j < ops.length)) (HD fun j=>decide (j < ops.length))):adraw P G ops K ts h:=by
 refine ⟨fun D ts' h'=>ts'=TD ops vals ts D∧h'=HD D,⟨?_,h0.symm⟩,?_,?_⟩
 ·funext x
  unfold TD
  split <;> simp
 ·rintro D i o ts' h' ⟨rfl,rfl⟩ k1 hDi hcl haf
  refine guardP_mono (fun hq=>aopP_mono (fun v h' hv=>?_) hq) (fun hq=>?_) (hop D i o k1 hDi hcl haf)
  ·obtain ⟨rfl,rfl⟩:=hv
   exact ⟨put_TD he k1,rfl⟩
  ·refine ⟨?_,hq.2.symm⟩
   rw [←put_TD he k1,hq.1]
 ·rintro ts' h' ⟨rfl,rfl⟩
  exact hfin
theorem adraw_sound {ops:Array Oper} {l:List AOper} {K:Ts→Hp→Prop} {Q:Exit→Act→World→Prop} (hK:∀ (C:Ctx) (ts:Ts) (h:Hp) (a:Act),Inv G C h→Step C0 C→RepT C ts n a→a.defers=[]→K ts h→Q .normal a C.w)
  (hc:compOpers P n true ops ops.toList=some l) (he:edgesB 0 l=true) (I:(Nat→Bool)→Ts→Hp→Prop)
  (hop:∀ D i o ts h,I D ts h→l[i]?=some o→D i=false→Closed l D→(∀ j∈o.after,D j=true) →
   guardP ts o.guard (aopP P G (evX ts) h (fun v h'=>I (fun j=>j == i||D j) (put ts o.dst v) h') o.op) (I (fun j=>j == i||D j) (put ts o.dst (.tup [])) h))
  (hfin:∀ ts h,I (fun j=>decide (j < l.length)) ts h→K ts h) :
  ∀ (fuel:Nat) (listed:Array Bool) (C:Ctx) (a:Act) (ts:Ts) (h:Hp),listed.size=ops.size→Closed l (fun j=>listed.getD j false)→(listed.toList.filter (· == false)).length≤fuel →
   I (fun j=>listed.getD j false) ts h→Inv G C h→Step C0 C→RepT C ts n a→a.defers=[]→wpAny P .any ops Q fuel listed a C.w:=by
 obtain ⟨hlen,hget⟩:=compOpers_get hc
 have hlen':l.length=ops.size:=by rw [hlen]; simp
 have hdone:∀ (listed:Array Bool) (C:Ctx) (a:Act) (ts:Ts) (h:Hp),listed.size=ops.size→I (fun j=>listed.getD j false) ts h→Inv G C h→Step C0 C→RepT C ts n a→a.defers=[]→Region.ready .any ops listed=[]→Q .normal a C.w:=by
  intro listed C a ts h hsz hi0 hI hS hT hd hr
  have hall:∀ j,j < ops.size→listed.getD j false=true:=by
   intro j
   induction j using Nat.strongRecOn with
   | _ j ih =>
    intro hj
    cases hlj:listed.getD j false with
    | true=>rfl
    | false =>
     exfalso
     have hoj:ops[j]?=some ops[j]:=Array.getElem?_eq_getElem hj
     obtain ⟨ao,g,h1,h2,h3,h4⟩:=hget j ops[j] (by simpa using hoj)
     have:j∈Region.ready .any ops listed:=by
      refine mem_ready.2 ⟨?_,ops[j],hoj,fun e hem hb=>?_⟩
      ·rw [Array.getD_eq_getD_getElem?] at hlj ⊢
       rw [Array.getElem?_eq_getElem (by omega)] at hlj ⊢
       exact hlj
      ·have hlt:=edgesB_after he j _ h1 e.on (by simp only [if_true]; exact afterOf_mem.2 ⟨e,hem,hb,rfl⟩)
       exact ih e.on (by omega) (by omega)
     rw [hr] at this
     simp at this
  have hD:(fun j=>listed.getD j false)=fun j=>decide (j < l.length):=by
   funext j
   by_cases hj:j < ops.size
   ·rw [hall j hj]; simp [hlen',hj]
   ·rw [Array.getD_eq_getD_getElem?,Array.getElem?_eq_none (by omega)]; simp [hlen',hj]
  rw [hD] at hi0
  exact hK C _ _ a hI hS hT hd (hfin _ _ hi0)
 intro fuel
 induction fuel with
 | zero =>
  intro listed C a ts h hsz hcl hf hi0 hI hS hT hd
  have hnil:Region.ready .any ops listed=[]:=by
   cases hr:Region.ready .any ops listed with
   | nil=>rfl
   | cons i rs =>
    exfalso
    obtain ⟨h1,o,h2,_⟩:=mem_ready.1 (by rw [hr]; simp:i∈Region.ready .any ops listed)
    have hi:i < listed.size:=by rw [hsz]; exact (Array.getElem?_eq_some_iff.1 h2).1
    have:listed[i]=false:=by
     rw [Array.getD_eq_getD_getElem?,Array.getElem?_eq_getElem hi] at h1
     exact h1
    have hm:listed[i]∈listed.toList.filter (· == false):=List.mem_filter.2 ⟨by simp,by rw [this]; rfl⟩
    have:=List.length_pos_of_mem hm
    omega
  exact ⟨hnil,hdone listed C a ts h hsz hi0 hI hS hT hd hnil⟩
 | succ fuel ih =>
  intro listed C a ts h hsz hcl hf hi0 hI hS hT hd
  refine ⟨fun hr=>hdone listed C a ts h hsz hi0 hI hS hT hd hr,fun i hi=>?_⟩
  obtain ⟨h1,o,h2,h3⟩:=mem_ready.1 hi
  have hilt:i < ops.size:=(Array.getElem?_eq_some_iff.1 h2).1
  have hil:i < listed.size:=by omega
  have hif:listed[i]=false:=by
   rw [Array.getD_eq_getD_getElem?,Array.getElem?_eq_getElem hil] at h1
   exact h1
  have hDi:listed.getD i false=false:=by rw [Array.getD_eq_getD_getElem?,Array.getElem?_eq_getElem hil]; exact hif
  obtain ⟨ao,g,k1,k2,k3,k4⟩:=hget i o (by simpa using h2)
  have hset:(fun j=>(listed.setIfInBounds i true).getD j false)=fun j=>j == i||listed.getD j false:=by
   funext j
   by_cases e:j=i
   ·subst e; simp [hil]
   ·rw [getD_set_ne false (fun h=>e h.symm)]; simp [e]
  have hcl':Closed l (fun j=>(listed.setIfInBounds i true).getD j false):=by
   rw [hset]
   intro j oj hj hDj k hk
   simp only [Bool.or_eq_true,beq_iff_eq] at hDj ⊢
   rcases hDj with rfl | hDj
   ·rw [k1] at hj; injection hj with hj; subst hj
    simp only [if_true] at hk
    obtain ⟨e,he1,he2,rfl⟩:=afterOf_mem.1 hk
    exact .inr (h3 e he1 he2)
   ·exact .inr (hcl j oj hj hDj k hk)
  have hf':((listed.setIfInBounds i true).toList.filter (· == false)).length≤fuel:=by
   rw [Array.toList_setIfInBounds]
   have hsplit:listed.toList=listed.toList.take i++false::listed.toList.drop (i+1):=by
    have:listed.toList[i]'(by simpa using hil)=false:=by simpa using hif
    conv=>lhs; rw [←List.take_append_drop i listed.toList,List.drop_eq_getElem_cons (by simpa using hil),this]
   have h4:(listed.toList.filter (· == false)).length=((listed.toList.take i).filter (· == false)).length+(((listed.toList.drop (i+1)).filter (· == false)).length+1):=by
    conv=>lhs; rw [hsplit]
    simp [List.filter_append]
   rw [List.set_eq_take_append_cons_drop,if_pos (by simpa using hil)]
   simp only [List.filter_append,List.length_append]
   rw [List.filter_cons_of_neg (by simp)]
   omega
  have hgd:=hop (fun j=>listed.getD j false) i _ ts h hi0 k1 hDi hcl (fun j hj=>by
   simp only [if_true] at hj
   obtain ⟨e,he1,he2,rfl⟩:=afterOf_mem.1 hj
   exact h3 e he1 he2)
  unfold wpOp
  rw [h2]
  simp only
  rcases guard_cases hT k4 hgd with ⟨hw,hk⟩ | ⟨hw,hk⟩
  ·rw [if_pos hw]
   refine .inl (aop_wp' hI hT k3 hk fun C' h' v cv q1 q2 q3 q4=>?_)
   refine ih _ C' _ (put ts o.dst v) h' (by simpa using hsz) hcl' hf' (by rw [hset]; exact q4) q1 (hS.trans q2) ?_ (by rw [put_defers]; exact hd)
   exact (hT.ext q2.ext).put k2 q3
  ·rw [if_neg (by simp [hw])]
   refine ih _ C _ (put ts o.dst (.tup [])) h (by simpa using hsz) hcl' hf' (by rw [hset]; exact hk) hI hS ?_ (by rw [put_defers]; exact hd)
   exact hT.put k2 rep_undef
theorem awp_sound (hm:P.follows .mixedOrders=true):∀ (c:Code) (ac:ACode),comp P n c=some ac→∀ (Q:AExit→Ts→Hp→Prop) (ts:Ts) (h:Hp),awp P G ac Q ts h→∀ (C:Ctx) (a:Act),Inv G C h→Step C0 C→RepT C ts n a→a.defers=[]→c.wp P (Post G C0 n Q) a C.w:=by
 intro c
 induction c with
 | skip =>
  intro ac hc Q ts h hw C a hI hS hT hd
  simp only [comp,Option.some.injEq] at hc; subst hc
  exact wp_skip ⟨C,ts,h,.normal,.normal,rfl,hI,hS,hT,hd,hw⟩
 | region id ops draw =>
  intro ac hc Q ts h hw C a hI hS hT hd
  simp only [comp] at hc
  split at hc
  rotate_left
  ·injection hc with hc; subst hc
   refine wp_mono (hw C a hI hT hd) ?_
   rintro e a' w ⟨C1,ts1,hp1,ae,hae,rfl,i1,s1,t1,d1,q1⟩
   exact ⟨C1,ts1,hp1,ae,hae,rfl,i1,hS.trans s1,t1,d1,q1⟩
  next l h1 =>
  injection hc with hc; subst hc
  have hK:∀ (C:Ctx) (ts:Ts) (h:Hp) (a:Act),Inv G C h→Step C0 C→RepT C ts n a→a.defers=[]→Q .normal ts h→Post G C0 n Q .normal a C.w:=fun C ts h a hI hS hT hd hq=>⟨C,ts,h,.normal,.normal,rfl,hI,hS,hT,hd,hq⟩
  cases draw with
  | false=>exact wp_region_list (aops_sound hK ops.toList l h1 C ts h a hI hS hT hd hw)
  | true =>
   obtain ⟨he,I,h0,hop,hfin⟩:=hw
   refine wp_region_any hm ?_
   have hlen:=(compOpers_get h1).1
   have hD:(fun j=>(Array.replicate ops.size false).getD j false)=fun _=>false:=by
    funext j
    rw [Array.getD_eq_getD_getElem?]
    by_cases hj:j < ops.size
    ·simp [hj]
    ·simp [hj]
   have hb:Below C.w.heap.size C.w C.w.drew:=bdrew C.w
   obtain ⟨i1,s1⟩:=inv_below hI hb
   refine adraw_sound hK h1 he I hop hfin ops.size (Array.replicate ops.size false) (C.at C.w.drew) a ts h (by simp) ?_ (by simp [List.filter_replicate]) (by rw [hD]; exact h0) i1 (hS.trans s1) (hT.ext s1.ext) hd
   rw [hD]; intro j o _ hj; cases hj
 | seq x y ihx ihy =>
  intro ac hc Q ts h hw C a hI hS hT hd
  simp only [comp,Option.bind_eq_some_iff,Option.some.injEq] at hc
  obtain ⟨ax,h1,ay,h2,rfl⟩:=hc
  refine wp_seq (wp_mono (ihx ax h1 _ ts h hw C a hI hS hT hd) ?_)
  rintro e a' w ⟨C1,ts1,hp1,ae,hae,rfl,i1,s1,t1,d1,q1⟩
  cases hae with
  | normal=>exact ihy ay h2 Q ts1 hp1 q1 C1 a' i1 s1 t1 d1
  | exit id=>exact ⟨C1,ts1,hp1,.exit id,.exit id,rfl,i1,s1,t1,d1,q1⟩
  | ret=>exact ⟨C1,ts1,hp1,.ret,.ret,rfl,i1,s1,t1,d1,q1⟩
 | cond b x y ihx ihy =>
  intro ac hc Q ts h hw C a hI hS hT hd
  simp only [comp,Option.bind_eq_some_iff,Option.some.injEq] at hc
  obtain ⟨ab,h0,ax,h1,ay,h2,rfl⟩:=hc
  simp only [awp] at hw
  have hr:=rep_opd hT h0
  cases hb:evX ts ab with
  | bool t =>
   rw [hb] at hw hr
   rw [rep_bool] at hr
   refine wp_cond_split hr (fun ht=>?_) (fun ht=>?_)
   ·exact ihx ax h1 Q ts h (hw.1 ht) C a hI hS hT hd
   ·exact ihy ay h2 Q ts h (hw.2 ht) C a hI hS hT hd
  | _=>rw [hb] at hw; exact hw.elim
 | block id x ihx =>
  intro ac hc Q ts h hw C a hI hS hT hd
  simp only [comp,Option.bind_eq_some_iff,Option.some.injEq] at hc
  obtain ⟨ax,h1,rfl⟩:=hc
  refine wp_block (wp_mono (ihx ax h1 _ ts h hw C a hI hS hT hd) ?_)
  rintro e a' w ⟨C1,ts1,hp1,ae,hae,rfl,i1,s1,t1,d1,q1⟩
  cases hae with
  | normal=>exact ⟨C1,ts1,hp1,.normal,.normal,rfl,i1,s1,t1,d1,q1⟩
  | exit id' =>
   simp only [blkA] at q1
   show if id'=id then _ else _
   split at q1
   ·next e=>rw [if_pos e]; exact ⟨C1,ts1,hp1,.normal,.normal,rfl,i1,s1,t1,d1,q1⟩
   ·next e=>rw [if_neg e]; exact ⟨C1,ts1,hp1,.exit id',.exit id',rfl,i1,s1,t1,d1,q1⟩
  | ret=>exact ⟨C1,ts1,hp1,.ret,.ret,rfl,i1,s1,t1,d1,q1⟩
 | loop x ihx =>
  intro ac hc Q ts h hw C a hI hS hT hd
  simp only [comp,Option.bind_eq_some_iff,Option.some.injEq] at hc
  obtain ⟨ax,h1,rfl⟩:=hc
  obtain ⟨k,hk⟩:=hw
  refine wp_loop_rounds k ?_
  revert ts h C a
  induction k with
  | zero=>intro ts h C a hI hS hT hd hk; exact hk.elim
  | succ k ih =>
   intro ts h C a hI hS hT hd hk
   refine wp_mono (ihx ax h1 _ ts h hk C a hI hS hT hd) ?_
   rintro e a' w ⟨C1,ts1,hp1,ae,hae,rfl,i1,s1,t1,d1,q1⟩
   cases hae with
   | normal=>exact ih ts1 hp1 C1 a' i1 s1 t1 d1 q1
   | exit id=>exact ⟨C1,ts1,hp1,.exit id,.exit id,rfl,i1,s1,t1,d1,q1⟩
   | ret=>exact ⟨C1,ts1,hp1,.ret,.ret,rfl,i1,s1,t1,d1,q1⟩
 | exit id =>
  intro ac hc Q ts h hw C a hI hS hT hd
  simp only [comp,Option.some.injEq] at hc; subst hc
  exact wp_exit ⟨C,ts,h,.exit id,.exit id,rfl,hI,hS,hT,hd,hw⟩
 | ret =>
  intro ac hc Q ts h hw C a hI hS hT hd
  simp only [comp,Option.some.injEq] at hc; subst hc
  exact wp_ret ⟨C,ts,h,.ret,.ret,rfl,hI,hS,hT,hd,hw⟩
 | _ =>
  intro ac hc Q ts h hw
  simp only [comp,Option.some.injEq] at hc
  subst hc
  exact hw.elim
end
end AX
end Go.Proofs.YtdgcbckcameggaaGreatDoor

namespace Go.Proofs.YtdgcbckcameggaaGreatDoor
open Go.RowKit
namespace AX
def le1:A→A→Prop
 | .sl W o rows,.sl W' o' rows'=>rows=rows'∧(W=W'∨rows'=[])∧(o' = .no∨o'=o∧W=W')
 | x,y=>x=y
def leL:List A→List A→Prop
 | [],[]=>True
 | x::l,y::m=>le1 x y∧leL l m
 | _,_=>False
def le2:A→A→Prop
 | .agg l,.agg m=>leL l m
 | x,y=>le1 x y
def leL2:List A→List A→Prop
 | [],[]=>True
 | x::l,y::m=>le2 x y∧leL2 l m
 | _,_=>False
def le:A→A→Prop
 | .tup l,.tup m=>leL2 l m
 | x,y=>le2 x y
section
variable {C:Ctx}
theorem rep_le1 {x y:A} {v:Value} (h:le1 x y) (hr:Rep C x v):Rep C y v:=by
 unfold le1 at h
 split at h
 ·next W o rows W' o' rows' =>
  obtain ⟨rfl,h1,h2⟩:=h
  obtain ⟨a,cap,e,h3,h4,h5⟩:=rep_sl.1 hr
  refine rep_sl.2 ⟨a,cap,e,h3,?_,?_⟩
  ·rcases h1 with rfl | rfl
   ·exact h4
   ·unfold RepRows; trivial
  ·rcases h2 with rfl | ⟨rfl,rfl⟩
   ·trivial
   ·exact h5
 ·subst h; exact hr
theorem repL_le:∀ {l m:List A} {cs:List Value},leL l m→RepL C l cs→RepL C m cs
 | [],[],cs,_,hr=>hr
 | x::l,y::m,cs,h,hr=>by
  obtain ⟨c,cs',rfl,h1,h2⟩:=repL_cons.1 hr
  exact repL_cons.2 ⟨c,cs',rfl,rep_le1 h.1 h1,repL_le h.2 h2⟩
 | [],y::m,cs,h,hr=>h.elim
 | x::l,[],cs,h,hr=>h.elim
theorem rep_le2 {x y:A} {v:Value} (h:le2 x y) (hr:Rep C x v):Rep C y v:=by
 unfold le2 at h
 split at h
 ·obtain ⟨cs,e,h1⟩:=rep_agg.1 hr
  exact rep_agg.2 ⟨cs,e,repL_le h h1⟩
 ·exact rep_le1 h hr
theorem repL_le2:∀ {l m:List A} {cs:List Value},leL2 l m→RepL C l cs→RepL C m cs
 | [],[],cs,_,hr=>hr
 | x::l,y::m,cs,h,hr=>by
  obtain ⟨c,cs',rfl,h1,h2⟩:=repL_cons.1 hr
  exact repL_cons.2 ⟨c,cs',rfl,rep_le2 h.1 h1,repL_le2 h.2 h2⟩
 | [],y::m,cs,h,hr=>h.elim
 | x::l,[],cs,h,hr=>h.elim
theorem rep_le {x y:A} {v:Value} (h:le x y) (hr:Rep C x v):Rep C y v:=by
 unfold le at h
 split at h
 ·obtain ⟨cs,e,h1⟩:=rep_tup.1 hr
  exact rep_tup.2 ⟨cs,e,repL_le2 h h1⟩
 ·exact rep_le2 h hr
theorem le1_refl (x:A):le1 x x:=by
 unfold le1
 split
 ·exact ⟨rfl,.inl rfl,.inr ⟨rfl,rfl⟩⟩
 ·rfl
theorem leL_refl:∀ l:List A,leL l l
 | []=>trivial
 | x::l=>⟨le1_refl x,leL_refl l⟩
theorem le2_refl (x:A):le2 x x:=by
 unfold le2
 split
 ·exact leL_refl _
 ·exact le1_refl x
theorem leL2_refl:∀ l:List A,leL2 l l
 | []=>trivial
 | x::l=>⟨le2_refl x,leL2_refl l⟩
theorem le_refl (x:A):le x x:=by
 unfold le
 split
 ·exact leL2_refl _
 ·exact le2_refl x
end
theorem ACall.args {P:Program} {G:World→Prop} {f:FuncId} {as as':List A} {h:Hp} {K:A→Hp→Prop} (hle:leL2 as as') (hc:ACall P G f as' h K):ACall P G f as h K:=
 fun C cs hI hr=>hc C cs hI (repL_le2 hle hr)
inductive ARes where
 | t (n:Nat)
 | c (n:Nat) (agg:Bool) (size:Nat)
def compRes (P:Program) (n:Nat):List ResultVar→Option (List ARes)
 | []=>some []
 | .tmp t::rs=>if t < n then (compRes P n rs).bind fun l=>some (.t t::l) else none
 | .cell t T::rs=>if t < n then (P.underlying T).bind fun d=>(P.info? T).bind fun i=>if isAggB d=true∨i.size=1 then (compRes P n rs).bind fun l=>some (.c t (isAggB d) i.size::l) else none else none
def resA (ts:Ts) (h:Hp):List ARes→Option (List A)
 | []=>some []
 | .t t::rs=>(resA ts h rs).bind fun l=>some (ts t::l)
 | .c t g n::rs=>(loadA h g n (ts t)).bind fun v=>(resA ts h rs).bind fun l=>some (v::l)
def tupA:List A→A
 | [v]=>v
 | l => .tup l
def finO (r:Option (List A)) (Q:A→Hp→Prop) (h:Hp):Prop:=
 match r with
 | some l=>∃ v,le (tupA l) v∧Q v h
 | none=>False
def finP (rs:List ARes) (Q:A→Hp→Prop) (ts:Ts) (h:Hp):Prop:=finO (resA ts h rs) Q h
def finQ (rs:List ARes) (Q:A→Hp→Prop):AExit→Ts→Hp→Prop
 | .normal=>finP rs Q
 | .ret=>finP rs Q
 | .exit _=>fun _ _=>False
structure AFn where
 n:Nat
 code:ACode
 res:List ARes
def compFn (P:Program) (f:FuncId):Option AFn:=
 match P.funcs[f]? with
 | some fn=>(fn.body).bind fun c=>(comp P fn.ntmps c).bind fun ac=>(compRes P fn.ntmps fn.results.toList).bind fun rs=>some ⟨fn.ntmps,ac,rs⟩
 | none=>none
def initTs (args:List A):Ts:=fun i=>args.getD i (.tup [])
section
variable {P:Program} {G:World→Prop} {n:Nat}
def resOf (tmps:Array Value):ResultVar→Sem Value
 | .tmp t=>pure (tmps.getD t undef)
 | .cell b t=>do loadVar t (←asAddr (tmps.getD b undef))
theorem results_eq (g:Func) (tmps:Array Value):results g tmps=(g.results.mapM (resOf tmps) >>= fun vs=>pure (if h:vs.size=1 then vs[0] else .tuple vs)):=by
 unfold results
 congr 1
theorem rep_res {C:Ctx} {h:Hp} {ts:Ts} {a:Act} (hI:Inv G C h) (hT:RepT C ts n a):∀ (rs:List ResultVar) (rl:List ARes) (l:List A),compRes P n rs=some rl→resA ts h rl=some l →
  ∃ vs:List Value,(rs.mapM (resOf a.tmps)).run P C.w=Result.ok vs C.w∧RepL C l vs
 | [],rl,l,hc,hr=>by
  simp only [compRes,Option.some.injEq] at hc; subst hc
  simp only [resA,Option.some.injEq] at hr; subst hr
  exact ⟨[],by simp,repL_nil.2 rfl⟩
 | .tmp t::rs,rl,l,hc,hr=>by
  simp only [compRes,Option.ite_none_right_eq_some,Option.bind_eq_some_iff,Option.some.injEq] at hc
  obtain ⟨hlt,rl',h1,rfl⟩:=hc
  simp only [resA,Option.bind_eq_some_iff,Option.some.injEq] at hr
  obtain ⟨l',h2,rfl⟩:=hr
  obtain ⟨vs,k1,k2⟩:=rep_res hI hT rs rl' l' h1 h2
  exact ⟨_::vs,by simp [List.mapM_cons,k1,resOf],repL_cons.2 ⟨_,vs,rfl,hT.rep t hlt,k2⟩⟩
 | .cell t T::rs,rl,l,hc,hr=>by
  simp only [compRes,Option.ite_none_right_eq_some,Option.bind_eq_some_iff,Option.some.injEq] at hc
  obtain ⟨hlt,d,hd,i,hi,h1,rl',h2,rfl⟩:=hc
  simp only [resA,Option.bind_eq_some_iff,Option.some.injEq] at hr
  obtain ⟨v,h3,l',h4,rfl⟩:=hr
  obtain ⟨vs,k1,k2⟩:=rep_res hI hT rs rl' l' h2 h4
  obtain ⟨ad,cv,e,hrun,hv⟩:=load_run hI hd hi h1 (hT.rep t hlt) h3
  rw [e] at hrun
  have hrun':(loadVar T ad).run P C.w = .ok cv C.w:=by
   unfold Instr.loadAt at hrun
   simpa [Instr.sureAddr] using hrun
  refine ⟨cv::vs,?_,repL_cons.2 ⟨cv,vs,rfl,hv,k2⟩⟩
  simp [List.mapM_cons,resOf,e,asAddr,hrun',k1]
theorem acall_of (hm:P.follows .mixedOrders=true) {f:FuncId} {fn:AFn} {args:List A} {h:Hp} {Q:A→Hp→Prop} (hf:compFn P f=some fn) (hl:args.length≤fn.n) (hw:awp P G fn.code (finQ fn.res Q) (initTs args) h):ACall P G f args h Q:=by
 unfold compFn at hf
 split at hf
 ·next g hg =>
  simp only [Option.bind_eq_some_iff,Option.some.injEq] at hf
  obtain ⟨c,hb,ac,hc,rs,hr,rfl⟩:=hf
  intro C cs hI hargs
  have hcl:=repL_length hargs
  refine calls_of_wp hg hb ?_
  have hT:RepT C (initTs args) g.ntmps { tmps:=cs.toArray++Array.replicate (g.ntmps - cs.toArray.size) undef,defers:=[] }:=by
   simp only at hl
   refine ⟨by simp; omega,fun i hi=>?_⟩
   unfold initTs
   rw [Array.getD_eq_getD_getElem?]
   by_cases hlt:i < cs.length
   ·have hx:args[i]?=some args[i]:=List.getElem?_eq_getElem (by omega)
    obtain ⟨v,k1,k2⟩:=repL_get hargs i _ hx
    rw [Array.getElem?_append_left (by simpa using hlt)]
    simp only [List.getElem?_toArray,k1,Option.getD_some]
    simpa [List.getD,hx] using k2
   ·rw [Array.getElem?_append_right (by simp; omega)]
    rw [List.getD_eq_getElem?_getD,List.getElem?_eq_none (by omega)]
    rw [Array.getElem?_replicate]
    split
    ·exact rep_undef
    ·exact rep_undef
  have key:=awp_sound (C0:=C) hm c ac hc _ _ _ hw C _ hI (Step.refl C) hT rfl
  refine wp_mono key ?_
  rintro e a' w ⟨C1,ts1,h1,ae,hae,rfl,i1,s1,t1,d1,q1⟩
  have fin:finP rs Q ts1 h1→a'.defers=[]∧∃ v,(results g a'.tmps).run P C1.w = .ok v C1.w∧∃ (C':Ctx) (h':Hp) (u:A) (cv:Value),Ending.returned v = .returned cv∧C'.w=C1.w∧Inv G C' h'∧Step C C'∧Rep C' u cv∧Q u h':=by
   intro hq
   unfold finP finO at hq
   split at hq
   ·next l hl' =>
    obtain ⟨u,hu,hQ⟩:=hq
    obtain ⟨vs,k1,k2⟩:=rep_res i1 t1 g.results.toList rs l hr hl'
    have hvl:=repL_length k2
    refine ⟨d1,_,?_,C1,h1,u,if hh:vs.toArray.size=1 then vs.toArray[0] else .tuple vs.toArray,rfl,rfl,i1,s1,rep_le hu ?_,hQ⟩
    ·have hmap:(g.results.mapM (resOf a'.tmps)).run P C1.w = .ok vs.toArray C1.w:=by
      rw [←Array.toArray_toList (xs:=g.results),List.mapM_toArray]
      simp [k1]
     rw [results_eq,Sem.run_bind,hmap]
     rfl
    ·split
     ·next h1' =>
      have:vs.length=1:=by simpa using h1'
      match l,vs,k2,hvl,this with
      | [x],[v],k2,_,_ =>
       obtain ⟨c,cs',e,r1,_⟩:=repL_cons.1 k2
       injection e with e1 e2; subst e1
       exact r1
     ·next h1' =>
      have hne:l.length≠1:=by rw [←hvl]; simpa using h1'
      have:tupA l = .tup l:=by
       unfold tupA
       split
       ·simp at hne
       ·rfl
      rw [this]
      exact rep_tup.2 ⟨vs,rfl,k2⟩
   ·exact hq.elim
  cases hae with
  | normal=>exact fin q1
  | ret=>exact fin q1
  | exit id=>exact q1.elim
 ·cases hf
end
end AX
end Go.Proofs.YtdgcbckcameggaaGreatDoor
