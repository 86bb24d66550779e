/- Part of what the proof needs. -/
import Derived.Test.YthhpocnmfknalaaGreatDoorMFrWorkspaceCallsA
import Derived.Laws.Tables
import Derived.Laws.Entries
import Derived.Laws.Cells
import Derived.Laws.StructEq
import Derived.Laws.Slices
import Derived.Laws.Small
import Derived.Laws.AppendOwn
import Derived.Great.BuildSlice
import Derived.Laws.MakeOwn
set_option maxHeartbeats 4000000
set_option maxRecDepth 100000
set_option linter.all false
namespace Go.Proofs.YthhpocnmfknalaaGreatDoor
section
open Go.RowKit
namespace AX
def evX(ts:Nat->A):Opd->A
 |.t n=>ts n
 |.c a=>a
structure RepT(C:Ctx)(ts:Nat->A)(n:Nat)(a:Act):Prop where
 size:a.tmps.size=n
 rep:∀i,i<n->Rep C (ts i) (a.tmps.getD i undef)
theorem rep_int{C:Ctx}{k:IntKind}{n:Int}{v:Value}:Rep C (.int k n) v↔v=.int k n:=by unfold Rep;exact Iff.rfl
theorem rep_str{C:Ctx}{l:List UInt8}{v:Value}:Rep C (.str l) v↔v=.string ⟨l.toArray⟩:=by unfold Rep;exact Iff.rfl
theorem aqn{C:Ctx}{b:Bool}{v:Value}:Rep C (.bool b) v↔v=.bool b:=by unfold Rep;exact Iff.rfl
theorem az2{C:Ctx}{v:Value}:Rep C .nilp v↔v=.pointer none:=by unfold Rep;exact Iff.rfl
theorem bk9{C:Ctx}{v:Value}:Rep C .nili v↔v=.nilIface:=by unfold Rep;exact Iff.rfl
theorem bw6{C:Ctx}{v:Value}:Rep C .nilf v↔v=.nilFunc:=by unfold Rep;exact Iff.rfl
theorem axw{C:Ctx}{v:Value}:Rep C .nilm v↔v=.map none:=by unfold Rep;exact Iff.rfl
theorem rep_bs{C:Ctx}{i W n:Nat}{v:Value}:Rep C (.bs i W n) v↔∃cap,v=.slice (some ⟨C.κ i,0,none⟩) n cap/\n<=cap/\i<C.nb/\cap<=maxLen/\cap*W<=C.kap i:=by rw[Rep]
theorem rep_mp{C:Ctx}{i:Nat}{v:Value}:Rep C (.mp i) v↔v=.map (some (C.κ i))/\i<C.nb:=by rw[Rep]
theorem rep_sl{C:Ctx}{W:Nat}{o:Own}{rows:List (List A)}{v:Value}:Rep C (.sl W o rows) v↔∃a cap,v=.slice a rows.length cap/\rows.length<=cap/\RepRows C W rows a 0/\RepOwn C W o rows.length a cap:=by rw[Rep]
theorem rep_ptr{C:Ctx}{i o:Nat}{v:Value}:Rep C (.ptr i o) v↔v=.pointer (some ⟨C.κ i,o,none⟩)/\i<C.nb:=by rw[Rep]
theorem rep_vptr{C:Ctx}{l:List A}{v:Value}:Rep C (.vptr l) v↔∃g off,v=.pointer (some ⟨g,off,none⟩)/\RepAt C l g off:=by rw[Rep]
theorem rep_agg{C:Ctx}{l:List A}{v:Value}:Rep C (.agg l) v↔∃cs,v=.agg cs.toArray/\RepL C l cs:=by rw[Rep]
theorem rep_tup{C:Ctx}{l:List A}{v:Value}:Rep C (.tup l) v↔∃cs,v=.tuple cs.toArray/\RepL C l cs:=by rw[Rep]
theorem rep_fn{C:Ctx}{f:FuncId}{l:List A}{v:Value}:Rep C (.fn f l) v↔∃cs,v=fnV f cs.toArray/\RepL C l cs:=by rw[Rep]
theorem azp{C:Ctx}{cs:List Value}:RepL C [] cs↔cs=[]:=by rw[RepL]
theorem repL_cons{C:Ctx}{x:A}{l:List A}{cs:List Value}:RepL C (x::l) cs↔∃c cs',cs=c::cs'/\Rep C x c/\RepL C l cs':=by rw[RepL]
theorem azi{C:Ctx}:∀{l:List A} {cs:List Value},RepL C l cs->cs.length=l.length
 |[],cs,h=>by rw[azp]at h;simp[h]
 |x::l,cs,h=>by
  obtain⟨c,cs',rfl,_,h2⟩:=repL_cons.1 h;simp[azi h2]
theorem axb{C:Ctx}:∀{l:List A} {cs:List Value},RepL C l cs->∀(i:Nat) (x:A),l[i]?=some x->∃c,cs[i]?=some c/\Rep C x c
 |[],cs,h,i,x,hx=>by simp at hx
 |y::l,cs,h,0,x,hx=>by
  obtain⟨c,cs',rfl,h1,h2⟩:=repL_cons.1 h;simp at hx;subst hx;exact⟨c,rfl,h1⟩
 |y::l,cs,h,i+1,x,hx=>by
  obtain⟨c,cs',rfl,h1,h2⟩:=repL_cons.1 h;exact axb h2 i x (by simpa using hx)
theorem bqs{C:Ctx}:∀(l:List A) (cs:List Value),cs.length=l.length->(∀(i:Nat) (x:A) (c:Value),l[i]?=some x->cs[i]?=some c->Rep C x c)->RepL C l cs
 |[],cs,h,_=>by rw[azp];exact ZN h
 |x::l,[],h,_=>by simp at h
 |x::l,c::cs,h,hg=>by
  rw[repL_cons];exact⟨c,cs,rfl,hg 0 x c rfl rfl,bqs l cs (by simpa using h) fun i x c h1 h2=>hg (i+1) x c (by simpa using h1) (by simpa using h2)⟩
theorem bjm{C:Ctx}{v:Value}{a:A}(h:cj9 v=some a):Rep C a v:=by
 unfold cj9 at h;split at h<;>simp only[Zc,reduceCtorEq]at h<;>subst h
 ·exact rep_int.2 rfl
 ·next s=>exact rep_str.2 (by rw[show(⟨s.data.toList.toArray⟩:ByteArray)=s from by simp])
 ·exact aqn.2 rfl
 ·exact az2.2 rfl
 ·exact bk9.2 rfl
 ·exact bw6.2 rfl
 ·exact axw.2 rfl
 ·exact rep_sl.2 ⟨none,0,rfl,Ze _,by unfold RepRows;trivial,rfl,rfl,rfl⟩
theorem ax4{C:Ctx}:∀{vs:List Value} {l:List A},convs vs=some l->RepL C l vs
 |[],l,h=>by simp only[convs,Zc]at h;subst h;exact azp.2 rfl
 |v::vs,l,h=>by
  simp only[convs,Zd,Zc]at h;obtain⟨a,h1,m,h2,rfl⟩:=h;exact repL_cons.2 ⟨v,vs,rfl,bjm h1,ax4 h2⟩
theorem bjx{C:Ctx}{v:Value}{a:A}(h:convV v=some a):Rep C a v:=by
 unfold convV at h;split at h
 ·simp only[Zd,Zc]at h;obtain⟨l,h1,rfl⟩:=h;exact rep_agg.2 ⟨_,by simp,ax4 h1⟩
 ·next cs=>
  split at h
  ·next he=>
   simp only[Zc]at h;subst h
   exact rep_tup.2 ⟨[],by
    have:cs.toList=[]:=by simpa using he
    rw[Ya.1 (this:cs.toList=(#[]:Array Value).toList)],azp.2 rfl⟩
  ·cases h
 ·exact bjm h
theorem azh{C:Ctx}{ts:Nat->A}{n:Nat}{a:Act}(hT:RepT C ts n a){x:Operand}{y:Opd}(h:compX n x=some y):Rep C (evX ts y) (a.eval x):=by
 unfold compX at h;split at h
 ·next t=>
  split at h
  ·simp only[Zc]at h;subst h;exact hT.rep t (by assumption)
  ·cases h
 ·next v=>
  simp only[Zd,Zc]at h;obtain⟨b,h1,rfl⟩:=h;exact bjx h1
 ·split at h
  ·next hb=>
   simp only[Zc]at h;subst h;exact rep_fn.2 ⟨[],by unfold fnV;rw[if_pos hb];rfl,azp.2 rfl⟩
  ·cases h
 ·cases h
theorem ajn{C:Ctx}{ts:Nat->A}{n:Nat}{a:Act}(hT:RepT C ts n a):∀{xs:List Operand} {ys:List Opd},compXs n xs=some ys->RepL C (ys.map (evX ts)) (xs.map a.eval)
 |[],ys,h=>by simp only[compXs,Zc]at h;subst h;exact azp.2 rfl
 |x::xs,ys,h=>by
  simp only[compXs,Zd,Zc]at h;obtain⟨b,h1,m,h2,rfl⟩:=h;exact repL_cons.2 ⟨_,_,rfl,azh hT h1,ajn hT h2⟩
def OpOk(P:Program)(G:World->Prop)(C:Ctx)(a:Act)(o:Oper)(v:A)(h':Hp):Prop:=
 ∃(C':Ctx) (cv:Value),((execOp a.eval o).run P C.w=.ok (.value cv) C'.w\/((execOp a.eval o).run P C.w=.ok .skip C'.w/\cv=undef))/\Inv G C' h'/\Step C C'/\Rep C' v cv
section
variable {P:Program} {G:World->Prop} {C:Ctx} {a:Act} {o:Oper} {h:Hp} {ts:Nat->A} {n:Nat}
theorem azs{v:A}{cv:Value}(hI:Inv G C h)(hr:(execOp a.eval o).run P C.w=.ok (.value cv) C.w)(hv:Rep C v cv):OpOk P G C a o v h:=
 ⟨C,cv,.inl hr,hI,Step.refl C,hv⟩
def valOf:A->Value
 |.int k n=> .int k n
 |.bool b=> .bool b
 |.str l=> .string ⟨l.toArray⟩
 |_=>undef
theorem cyj{op:BinOp}{t yt:TypeId}{x y:Operand}{u v r:A}(hI:Inv G C h)(hop:o.op=.binOp op t x y yt)
  (hx:Rep C u (a.eval x)) (hy:Rep C v (a.eval y)) (hb:bop op u v=some r):OpOk P G C a o r h:=by
 have key:(binOp op t (a.eval x) (a.eval y)).run P C.w=.ok (valOf r) C.w/\Rep C r (valOf r)/\(eqGuard op t x y (a.eval x) (a.eval y)).run P C.w=.ok () C.w:=by
  cases u with
  |int k m=>
   cases v with
   |int k' m'=>
    rw[rep_int]at hx hy;rw[hx,hy];refine⟨?_,?_,by simp[eqGuard]⟩
    ·cases op<;>simp only[bop,shA,Zc,reduceCtorEq,Zp,and_false]at hb<;>first
      |(obtain⟨hk,hb⟩:=hb;subst hk;subst hb;simp[binOp,Op.intArith,Op.intCmp,intBits_and,intBits_or,intBits_xor,intBits_andNot,valOf];done)
      |(obtain⟨hk,h0,hb⟩:=hb;subst hk;subst hb;simp[binOp,Op.intDiv,h0,valOf];done)
      | (obtain ⟨h0, hb⟩ := hb; subst hb; have h1 : ¬ m' < 0 := by omega
         simp [binOp, Op.shift, h1, valOf]; done)
    ·cases op<;>simp only[bop,shA,Zc,reduceCtorEq,Zp,and_false]at hb<;>first
      |(obtain⟨hk,hb⟩:=hb;subst hb;first|exact rep_int.2 rfl|exact aqn.2 rfl)
      |(obtain⟨hk,h0,hb⟩:=hb;subst hb;exact rep_int.2 rfl)
   |_=>simp[bop]at hb
  |str l=>
   cases v with
   |str m=>
    rw[rep_str]at hx hy;simp only[bop]at hb;rw[hx,hy];have e1:(⟨l.toArray⟩:ByteArray).toList=l:=by rw[ByteArray.toList_eq]
    have e2:(⟨m.toArray⟩:ByteArray).toList=m:=by rw[ByteArray.toList_eq]
    refine⟨?_,?_,by simp[eqGuard]⟩
    ·cases op<;>simp only[Zc,reduceCtorEq,Zp]at hb<;>first
      |(subst hb;simp[binOp,Op.stringOp,e1,e2,valOf,bne];done)
      |(obtain⟨h0,hb⟩:=hb;subst hb;simp only[binOp];exact avq C.w rfl rfl h0)
    ·cases op<;>simp only[Zc,reduceCtorEq,Zp]at hb<;>first
      |(subst hb;exact aqn.2 rfl)
      |(obtain⟨h0,hb⟩:=hb;subst hb;exact rep_str.2 rfl)
   |_=>simp[bop]at hb
  |_=>simp[bop]at hb
 obtain⟨h1,h2,h3⟩:=key;refine azs hI ?_ h2;unfold execOp;simp[hop,h1,h3]
theorem djc{x:Operand}{v:A}(hI:Inv G C h)(hop:o.op=.move x\/o.op=.assign x)(hx:Rep C v (a.eval x)):OpOk P G C a o v h:=by
 refine azs hI ?_ hx;unfold execOp;rcases hop with e|e<;>simp[e]
theorem dqx{c x y:Operand}{u v:A}{b:Bool}(hI:Inv G C h)(hop:o.op=.pick c x y)(hc:Rep C (.bool b) (a.eval c))(hx:Rep C u (a.eval x))(hy:Rep C v (a.eval y)):OpOk P G C a o (if b then u else v) h:=by
 rw[aqn]at hc;refine azs (cv:=if b then a.eval x else a.eval y) hI ?_ (by cases b<;>simpa);unfold execOp;cases b<;>simp[hop,hc,asBool]
theorem djz{op:UnOp}{t:TypeId}{x:Operand}{u r:A}(hI:Inv G C h)(hop:o.op=.unOp op t x)(hx:Rep C u (a.eval x))(hb:uop op u=some r):OpOk P G C a o r h:=by
 cases u with
 |int k n=>
  rw[rep_int]at hx;simp only[uop]at hb;cases op<;>simp only[Zc,reduceCtorEq]at hb
  subst hb;refine azs hI ?_ (rep_int.2 rfl);unfold execOp;simp[hop,hx,Op.unary,Op.intArith]
 |bool b=>
  rw[aqn]at hx;simp only[uop]at hb;cases op<;>simp only[Zc,reduceCtorEq]at hb
  subst hb;refine azs hI ?_ (aqn.2 rfl);unfold execOp;simp[hop,hx,Op.unary]
 |_=>simp[uop]at hb
theorem dzx{src dst:TypeId}{x:Operand}{k j:IntKind}{n:Int}{s:TypeDesc}(hI:Inv G C h)(hop:o.op=.convert src dst x)(hs:P.underlying src=some s)(hd:P.underlying dst=some (.int k))(hx:Rep C (.int j n) (a.eval x)):OpOk P G C a o (.int k (k.wrap n)) h:=by
 rw[rep_int]at hx;refine azs hI ?_ (rep_int.2 rfl);unfold execOp;simp[hop,hx,convert,run_underlying hs,run_underlying hd,Conv.intToInt]
theorem czc{x:Operand}{i:Nat}{l:List A}{u:A}(hI:Inv G C h)(hop:o.op=.extract x i)(hx:Rep C (.tup l) (a.eval x))(hu:l[i]?=some u):OpOk P G C a o u h:=by
 obtain⟨cs,he,hl⟩:=rep_tup.1 hx;obtain⟨c,hc,hr⟩:=axb hl i u hu;refine azs hI ?_ hr;unfold execOp;simp[hop,he,Instr.extract,hc]
theorem dzk{f:FuncId}{fs cs:Array Operand}{l:List A}(hI:Inv G C h)(hop:o.op=.makeFunc (.func f) fs cs)(hb:f<bmk)(hf:cs=#[])(hx:RepL C l (fs.toList.map a.eval)):OpOk P G C a o (.fn (f+bmk) l) h:=by
 subst hf;refine azs (cv:=.func (.func f) (fs.toList.map a.eval).toArray #[]) hI ?_ (rep_fn.2 ⟨_,by unfold fnV;rw[if_neg (Nat.not_lt.2 (Nat.le_add_left _ _)),Nat.add_mod_right,YM hb],hx⟩);unfold execOp;have e:fs.map a.eval=(fs.toList.map a.eval).toArray:=Ya.1 (by simp);simp[hop,Instr.makeFunc,e]
theorem dzv{f:FuncId}{fs cs:Array Operand}{l:List A}(hI:Inv G C h)(hop:o.op=.makeFunc (.func f) fs cs)(hb:f<bmk)(hf:fs=#[])(hx:RepL C l (cs.toList.map a.eval)):OpOk P G C a o (.fn f l) h:=by
 subst hf;refine azs (cv:=.func (.func f) #[] (cs.toList.map a.eval).toArray) hI ?_ (rep_fn.2 ⟨_,by unfold fnV;rw[if_pos hb],hx⟩);unfold execOp;have e:cs.map a.eval=(cs.toList.map a.eval).toArray:=Ya.1 (by simp);simp[hop,Instr.makeFunc,e]
theorem dq8{t:TypeId}{x i:Operand}{l:List UInt8}{k:IntKind}{n:Int}(hI:Inv G C h)(hop:o.op=.index t x i)(ht:P.underlying t=some .string)(hx:Rep C (.str l) (a.eval x))(hi:Rep C (.int k n) (a.eval i))(h0:0<=n)(h1:n<l.length):OpOk P G C a o (.int .u8 (l.getD n.toNat 0).toNat) h:=by
 rw[rep_str]at hx;rw[rep_int]at hi;refine azs hI ?_ (rep_int.2 rfl);have hlt:n.toNat<l.length:=by omega
 unfold execOp;have hg:(⟨l.toArray⟩:ByteArray)[n.toNat]?=some (l.getD n.toNat 0):=by
  have hs:n.toNat<(⟨l.toArray⟩:ByteArray).size:=by rw[size_mk];exact hlt
  rw[getElem?_pos (⟨l.toArray⟩:ByteArray) n.toNat hs];congr 1;show l.toArray[n.toNat]=_
  simp[List.getD,hlt]
 simp[hop,hx,hi,Instr.index,run_underlying ht,asIntOf,h0,hg]
theorem cxk{c:Call}{T:TypeId}{x:Operand}{u:A}{m:Nat}(hI:Inv G C h)(hop:o.op=.call c)(hc:c.callee=.builtin .len)(ha:c.args=#[x])(hT:c.argTypes=#[T])(hx:Rep C u (a.eval x))
  (hu:(P.underlying T=some .string/\∃l,u=.str l/\l.length=m)\/(∃e,P.underlying T=some (.slice e)/\∃W ow rows,u=.sl W ow rows/\rows.length=m)\/(∃e,P.underlying T=some (.slice e)/\∃b W,u=.bs b W m)):OpOk P G C a o (.int .i64 m) h:=by
 refine azs hI ?_ (rep_int.2 rfl);unfold execOp;rcases hu with⟨ht,l,rfl,rfl⟩|⟨e,ht,W,ow,rows,rfl,rfl⟩|⟨e,ht,b,W,rfl⟩
 ·rw[rep_str]at hx;simp[hop,resolve,hc,ha,hT,invoke,builtin,Builtin.len_,hx,run_underlying ht,size_mk,goInt]
 ·obtain⟨ad,cap,e1,_⟩:=rep_sl.1 hx;simp[hop,resolve,hc,ha,hT,invoke,builtin,Builtin.len_,e1,run_underlying ht,goInt]
 ·obtain⟨cap,e1,_⟩:=rep_bs.1 hx;simp[hop,resolve,hc,ha,hT,invoke,builtin,Builtin.len_,e1,run_underlying ht,goInt]
theorem dqp{c:Call}{x y z:Operand}{k1 k2 k3:IntKind}{m1 m2 m3:Int}(hI:Inv G C h)(hop:o.op=.call c)(hc:c.callee=.builtin .max)(ha:c.args=#[x,y,z])(hx:Rep C (.int k1 m1) (a.eval x))(hy:Rep C (.int k2 m2) (a.eval y))(hz:Rep C (.int k3 m3) (a.eval z)):
  OpOk P G C a o (.int k1 (if m3>(if m2>m1 then m2 else m1)then m3 else(if m2>m1 then m2 else m1))) h:=by
 rw[rep_int]at hx hy hz;refine azs hI ?_ (rep_int.2 rfl);unfold execOp;simp[hop,resolve,hc,ha,invoke,builtin,Builtin.max_,Builtin.max2,hx,hy,hz]
theorem dxr{c:Call}{mx:Bool}{x y:Operand}{k1 k2:IntKind}{m1 m2:Int}(hI:Inv G C h)(hop:o.op=.call c)(hc:c.callee=.builtin (if mx then .max else .min))(ha:c.args=#[x,y])(hx:Rep C (.int k1 m1) (a.eval x))(hy:Rep C (.int k2 m2) (a.eval y)):
  OpOk P G C a o (.int k1 (if mx then(if m2>m1 then m2 else m1)else(if m2<m1 then m2 else m1))) h:=by
 rw[rep_int]at hx hy;refine azs hI ?_ (rep_int.2 rfl);unfold execOp;cases mx
 ·simp[hop,resolve,hc,ha,invoke,builtin,Builtin.min_,Builtin.min2,hx,hy]
 ·simp[hop,resolve,hc,ha,invoke,builtin,Builtin.max_,Builtin.max2,hx,hy]
theorem bwk{x:Operand}{u:A}(hI:Inv G C h)(hop:o.op=.nilCheck x)(hx:Rep C u (a.eval x))(hu:(∃i p,u=.ptr i p)\/∃l,u=.vptr l):OpOk P G C a o u h:=by
 refine azs hI ?_ hx;unfold execOp;rcases hu with⟨i,p,rfl⟩|⟨l,rfl⟩
 ·simp[hop,(rep_ptr.1 hx).1]
 ·obtain⟨g,off,e,_⟩:=rep_vptr.1 hx;simp[hop,e]
theorem bzp:∀{l:List A} {g off:Nat} (k:Nat),RepAt C l g off->RepAt C (l.drop k) g (off+k)
 |[],g,off,k,h=>by simp only[List.drop_nil];unfold RepAt;trivial
 |x::l,g,off,0,h=>h
 |x::l,g,off,k+1,h=>by
  rw[RepAt]at h;have:=bzp k h.2;rw[Z4,show off+(k+1)=off+1+k by omega];exact this
theorem bk2{s:TypeId}{x:Operand}{j:Nat}{fs:Array Field}{f:Field}{i:TypeInfo}{u v:A}(hI:Inv G C h)(hop:o.op=.fieldAddr s x j)(hs:P.underlying s=some (.struct fs))(hf:fs[j]?=some f)(hi:P.info? f.type=some i)(h0:i.size≠0)(hx:Rep C u (a.eval x))
  (hu:(∃b p,u=.ptr b p/\v=.ptr b (p+f.offset))\/∃l,u=.vptr l/\v=.vptr (l.drop f.offset)):OpOk P G C a o v h:=by
 rcases hu with⟨b,p,rfl,rfl⟩|⟨l,rfl,rfl⟩
 ·obtain⟨e,hb⟩:=rep_ptr.1 hx;refine azs hI (cv:=.pointer (some ⟨C.κ b,p+f.offset,none⟩)) ?_ (rep_ptr.2 ⟨rfl,hb⟩);unfold execOp;simp[hop,e,Instr.fieldAt,run_underlying hs,hf,Instr.sureAddr,fieldPlace,sizeOf,typeInfo,hi,h0,Addr.add]
 ·obtain⟨g,off,e,hr⟩:=rep_vptr.1 hx;refine azs hI (cv:=.pointer (some ⟨g,off+f.offset,none⟩)) ?_ (rep_vptr.2 ⟨g,_,rfl,bzp _ hr⟩);unfold execOp;simp[hop,e,Instr.fieldAt,run_underlying hs,hf,Instr.sureAddr,fieldPlace,sizeOf,typeInfo,hi,h0,Addr.add]
theorem aq7{W:Nat}:∀{rows:List (List A)} {ad:Option Addr} {i:Nat},RepRows C W rows ad i->∀k (hk:k<rows.length),∃g off,ad=some ⟨g,off,none⟩/\rows[k].length=W/\RepAt C rows[k] g (off+(i+k)*W)
 |[],ad,i,h,k,hk=>by simp at hk
 |r::rs,ad,i,h,0,hk=>by rw[RepRows]at h;simpa using h.1
 |r::rs,ad,i,h,k+1,hk=>by
  rw[RepRows]at h;have:=aq7 h.2 k (by simpa using hk);rw[show i+(k+1)=i+1+k by omega];exact this
theorem cwz{t e:TypeId}{x i:Operand}{ie:TypeInfo}{ow:Own}{rows:List (List A)}{k:IntKind}{n:Int}(hI:Inv G C h)(hop:o.op=.indexAddr t x i)(ht:P.underlying t=some (.slice e))(hie:P.info? e=some ie)
  (hx:Rep C (.sl ie.size ow rows) (a.eval x)) (hi:Rep C (.int k n) (a.eval i)) (h0:0<=n) (h1:n<rows.length):OpOk P G C a o (.vptr (rows.getD n.toNat [])) h:=by
 obtain⟨ad,cap,ex,hcap,hr,_⟩:=rep_sl.1 hx;rw[rep_int]at hi;have hlt:n.toNat<rows.length:=by omega
 obtain⟨g,off,rfl,hl,hat⟩:=aq7 hr n.toNat hlt;rw[Yj]at hat;refine azs hI (cv:=.pointer (some ⟨g,off+n.toNat*ie.size,none⟩)) ?_ (rep_vptr.2 ⟨g,_,rfl,by simpa [List.getD,hlt]using hat⟩);unfold execOp;simp[hop,ex,hi,Instr.indexAt,run_underlying ht,asIntOf,h0,h1,sizeOf,typeInfo,hie,Addr.add]
theorem cx5{t e:TypeId}{x i:Operand}{ie:TypeInfo}{b m:Nat}{k:IntKind}{n:Int}(hI:Inv G C h)(hop:o.op=.indexAddr t x i)(ht:P.underlying t=some (.slice e))(hie:P.info? e=some ie)
  (hx:Rep C (.bs b ie.size m) (a.eval x)) (hi:Rep C (.int k n) (a.eval i)) (h0:0<=n) (h1:n<m):OpOk P G C a o (.ptr b (n.toNat*ie.size)) h:=by
 obtain⟨cap,ex,hcap,hb,_⟩:=rep_bs.1 hx;rw[rep_int]at hi;refine azs hI (cv:=.pointer (some ⟨C.κ b,n.toNat*ie.size,none⟩)) ?_ (rep_ptr.2 ⟨rfl,hb⟩);unfold execOp;simp[hop,ex,hi,Instr.indexAt,run_underlying ht,asIntOf,h0,h1,sizeOf,typeInfo,hie,Addr.add]
 try (intro e;exact e.symm)
theorem aj1:∀{l:List A} {g off:Nat},RepAt C l g off->∃cs,RepL C l cs/\∀(j:Nat) (v:Value),cs[j]?=some v->C.w.cell? ⟨g,off+j,none⟩=some v
 |[],g,off,h=>⟨[],azp.2 rfl,fun j v h=>by simp at h⟩
 |x::l,g,off,h=>by
  rw[RepAt]at h;obtain⟨⟨_,_,v,h1,h2⟩,h3⟩:=h;obtain⟨cs,k1,k2⟩:=aj1 h3;refine⟨v::cs,repL_cons.2 ⟨v,cs,rfl,h2,k1⟩,fun j u hu=>?_⟩;cases j with
  |zero=>simp at hu;subst hu;exact h1
  |succ j=>
   have:=k2 j u (by simpa using hu)
   rwa [show off+1+j=off+(j+1) by omega]at this
theorem az1{l:List A}{cs:List Value}(k:Nat)(h:RepL C l cs):RepL C (l.take k) (cs.take k):=by
 refine bqs _ _ (by simp[azi h]) fun i x c h1 h2=>?_
 rw[List.getElem?_take]at h1 h2;split at h1
 ·next hi=>
  rw[if_pos hi]at h2;obtain⟨c',k1,k2⟩:=axb h i x h1;rw[k1]at h2;injection h2 with h2;subst h2
  exact k2
 ·cases h1
theorem aqp{l:List A}{cs:List Value}(k:Nat)(h:RepL C l cs):RepL C (l.drop k) (cs.drop k):=by
 refine bqs _ _ (by simp[azi h]) fun i x c h1 h2=>?_
 rw[List.getElem?_drop]at h1 h2;obtain⟨c',k1,k2⟩:=axb h _ x h1;rw[k1]at h2;injection h2 with h2;subst h2
 exact k2
theorem cwi{t:TypeId}{x:Operand}{j:Nat}{fs:Array Field}{f:Field}{d:TypeDesc}{i:TypeInfo}{l:List A}{v:A}(hI:Inv G C h)(hop:o.op=.field t x j)(ht:P.underlying t=some (.struct fs))(hf:fs[j]?=some f)(hd:P.underlying f.type=some d)(hi:P.info? f.type=some i)(hx:Rep C (.agg l) (a.eval x))
  (hv:(if isAggB d=true then(if f.offset+i.size<=l.length then some (A.agg ((l.drop f.offset).take i.size))else none)else l[f.offset]?)=some v):OpOk P G C a o v h:=by
 obtain⟨cs,he,hl⟩:=rep_agg.1 hx;have hb:∀w,(isAgg f.type).run P w=.ok (isAggB d) w:=fun w=>by
  unfold isAgg;simp only[Sem.run_bind,run_underlying hd,Result.andThen_ok];cases d<;>simp[isAggB]
 have hs:∀w,(sizeOf f.type).run P w=.ok i.size w:=fun w=>by simp[sizeOf,typeInfo,hi]
 cases hB:isAggB d with
 |false=>
  rw[hB,if_neg (by decide)]at hv;obtain⟨c,hc,hr⟩:=axb hl _ v hv;refine azs (cv:=c) hI ?_ hr;unfold execOp;simp[hop,he,Instr.field,run_underlying ht,hf,asAgg,part,hb,hB,hc]
 |true=>
  rw[hB,if_pos rfl]at hv;split at hv
  ·next hle=>
   injection hv with hv;subst hv;refine azs (cv:=.agg ((cs.drop f.offset).take i.size).toArray) hI ?_ (rep_agg.2 ⟨_,rfl,az1 _ (aqp _ hl)⟩);unfold execOp;simp[hop,he,Instr.field,run_underlying ht,hf,asAgg,part,hb,hB,hs,List.drop_take]
  ·cases hv
theorem akl{t:TypeId}{d:TypeDesc}{i:TypeInfo}{g off:Nat}{cs:List Value}(w:World)(hd:P.underlying t=some d)(hi:P.info? t=some i)(hl:cs.length=i.size)(hc:∀(j:Nat) (v:Value),cs[j]?=some v->w.cell? ⟨g,off+j,none⟩=some v)(h1:isAggB d=true\/i.size=1):
  (Instr.loadAt t (.pointer (some ⟨g,off,none⟩))).run P w=.ok (if isAggB d then .agg cs.toArray else cs.getD 0 undef) w:=by
 have hb:(isAgg t).run P w=.ok (isAggB d) w:=by
  unfold isAgg;simp only[Sem.run_bind,run_underlying hd,Result.andThen_ok];cases d<;>simp[isAggB]
 have hc':∀(j:Nat) (v:Value),cs[j]?=some v->w.cell? ((⟨g,off,none⟩:Addr).add j)=some v:=fun j v hv=>by rw[aq1];exact hc j v hv
 have hs:(sizeOf t).run P w=.ok i.size w:=by simp[sizeOf,typeInfo,hi]
 unfold Instr.loadAt loadVar;simp only[Instr.sureAddr,Sem.run_bind,Sem.run_pure,Result.andThen_ok,hb];cases hB:isAggB d
 ·have hz : i.size = 1 := by rcases h1 with h1 | h1; · rw [hB] at h1; cases h1
                             · exact h1
  have:cs[0]?=some (cs.getD 0 undef):=by
   rw[Zj (by omega)];simp[List.getD,show 0<cs.length by omega]
  have h2:=hc 0 _ this;rw[Yr]at h2;simp only[Zn,if_false,run_load,h2]
 ·rw[if_pos rfl];simp only[Sem.run_bind,hs,Result.andThen_ok,<-hl,run_loadCells_list w _ cs hc'];rfl
theorem bkt{t:TypeId}{d:TypeDesc}{i:TypeInfo}{pv:Value}{u r:A}(hI:Inv G C h)(hd:P.underlying t=some d)(hi:P.info? t=some i)(h1:isAggB d=true\/i.size=1)(hx:Rep C u pv)(hl:loadA h (isAggB d) i.size u=some r):
  ∃ad v,pv=.pointer (some ad)/\(Instr.loadAt t pv).run P C.w=.ok v C.w/\Rep C r v:=by
 have key:∃g off l cs,pv=.pointer (some ⟨g,off,none⟩)/\RepL C l cs/\l.length=i.size/\(∀(j:Nat) (v:Value),cs[j]?=some v->C.w.cell? ⟨g,off+j,none⟩=some v)/\(if isAggB d then some (.agg l)else l[0]?)=some r:=by
  cases u with
  |ptr b q=>
   simp only[loadA]at hl;split at hl
   ·next T l hb=>
    obtain⟨e,hlt⟩:=rep_ptr.1 hx;obtain⟨cs,k1,k2⟩:=hI.box b _ hb;split at hl
    ·next hle=>
     refine⟨_,_,(l.drop q).take i.size,(cs.drop q).take i.size,e,az1 _ (aqp _ k2),by simp;omega,fun j v hv=>?_,hl⟩;rw[cell_of_row _ _ _ _ _ _ k1];rw[List.getElem?_take]at hv;split at hv
     ·rw[List.getElem?_drop]at hv;simpa using hv
     ·cases hv
    ·cases hl
   ·next R vis hb=>
    obtain⟨e,hlt⟩:=rep_ptr.1 hx;obtain⟨_,k2⟩:=hI.box b _ hb;split at hl
    ·next hc=>
     obtain⟨v,k3,k4⟩:=k2 q r hl;refine⟨_,_,[r],[v],e,repL_cons.2 ⟨v,[],rfl,k4,azp.2 rfl⟩,by simpa using hc.2.symm,fun j u hu=>?_,by simp[hc.1]⟩;cases j with
     |zero=>simp at hu;subst hu;exact k3
     |succ j=>simp at hu
    ·cases hl
   ·next T l hb=>
    obtain⟨e,hlt⟩:=rep_ptr.1 hx;obtain⟨cs,rest,k1,k2,_⟩:=hI.box b _ hb;have hcl:=azi k2;split at hl
    ·next hle=>
     refine⟨_,_,(l.drop q).take i.size,(cs.drop q).take i.size,e,az1 _ (aqp _ k2),by simp;omega,fun j v hv=>?_,hl⟩;rw[cell_of_row _ _ _ _ _ _ k1];rw[List.getElem?_take]at hv;split at hv
     ·rw[List.getElem?_drop]at hv;have hj:q+j<cs.length:=(Zb.1 hv).1;simp only[List.getElem?_toArray];rw[ZF hj];exact hv
     ·cases hv
    ·cases hl
   ·cases hl
  |vptr l=>
   simp only[loadA]at hl;split at hl
   ·next hle=>
    obtain⟨g,off,e,hr⟩:=rep_vptr.1 hx;obtain⟨cs,k1,k2⟩:=aj1 hr;refine⟨g,off,l.take i.size,cs.take i.size,e,az1 _ k1,by simp;omega,fun j v hv=>?_,hl⟩;rw[List.getElem?_take]at hv;split at hv
    ·exact k2 j v hv
    ·cases hv
   ·cases hl
  |_=>simp[loadA]at hl
 obtain⟨g,off,l,cs,e,hL,hlen,hc,hres⟩:=key;have hrun:=akl (P:=P) C.w hd hi (by rw[azi hL,hlen]) hc h1;refine⟨_,if isAggB d then .agg cs.toArray else cs.getD 0 undef,e,by rw[e];exact hrun,?_⟩;cases hB:isAggB d
 ·rw[hB]at hres;simp only[Zn,if_false]at hres⊢;obtain⟨c,k1,k2⟩:=axb hL 0 r hres;simpa [List.getD,k1]using k2
 ·rw[hB]at hres;simp only[if_true,Zc]at hres⊢;subst hres;exact rep_agg.2 ⟨cs,rfl,hL⟩
theorem dz0{t:TypeId}{d:TypeDesc}{i:TypeInfo}{p:Operand}{u r:A}(hI:Inv G C h)(hop:o.op=.load t p)(hd:P.underlying t=some d)(hi:P.info? t=some i)(h1:isAggB d=true\/i.size=1)(hx:Rep C u (a.eval p))(hl:loadA h (isAggB d) i.size u=some r):OpOk P G C a o r h:=by
 obtain⟨ad,v,_,hrun,hv⟩:=bkt hI hd hi h1 hx hl;refine azs hI ?_ hv;unfold execOp;simp[hop,hrun]
end
end AX
end
section
open Go.RowKit
namespace AX
section
variable {P:Program} {G:World->Prop} {C:Ctx} {a:Act} {o:Oper} {h:Hp} {ts:Nat->A} {n:Nat}
theorem azo{l m:List A}:∀{cs ds:List Value},RepL C l cs->RepL C m ds->RepL C (l++m) (cs++ds):=by
 induction l with
 |nil=>intro cs ds h1 h2;rw[azp]at h1;subst h1;exact h2
 |cons x l ih=>
  intro cs ds h1 h2;obtain⟨c,cs',rfl,k1,k2⟩:=repL_cons.1 h1;exact repL_cons.2 ⟨c,cs'++ds,rfl,k1,ih k2 h2⟩
theorem bk5:∀(l:List A) (cs:List Value) (g off:Nat),RepL C l cs->l.all A.data=true->(∀j,j<l.length->C.S g (off+j))->(∀(j:Nat) (v:Value),cs[j]?=some v->C.w.cell? ⟨g,off+j,none⟩=some v)->RepAt C l g off
 |[],cs,g,off,h1,h2,h3,h4=>by unfold RepAt;trivial
 |x::l,cs,g,off,h1,h2,h3,h4=>by
  obtain⟨c,cs',rfl,k1,k2⟩:=repL_cons.1 h1;rw[ZK,Zg]at h2;rw[RepAt];refine⟨⟨h3 0 (by simp),h2.1,c,h4 0 c rfl,k1⟩,bk5 l cs' g (off+1) k2 h2.2 (fun j hj=>?_) fun j v hv=>?_⟩
  ·have:=h3 (j+1) (by simpa using hj)
   rwa [show off+(j+1)=off+1+j by omega]at this
  ·have:=h4 (j+1) v (by simpa using hv)
   rwa [show off+(j+1)=off+1+j by omega]at this
theorem bzb:∀{l:List A} {g off:Nat},RepAt C l g off->l.all A.data=true
 |[],g,off,h=>rfl
 |x::l,g,off,h=>by
  rw[RepAt]at h;rw[ZK,Zg];exact⟨h.1.2.1,bzb h.2⟩
theorem aqi{W g off:Nat}:∀(rows:List (List A)) (cs:List Value) (i:Nat),(∀r∈rows,r.length=W)->rows.flatten.all A.data=true->RepL C rows.flatten cs->(∀j,j<rows.length*W->C.S g (off+i*W+j)) ->
  (∀(j:Nat) (v:Value),cs[j]?=some v->C.w.cell? ⟨g,off+i*W+j,none⟩=some v)->RepRows C W rows (some ⟨g,off,none⟩) i
 |[],cs,i,h1,h2,h3,h4,h5=>by unfold RepRows;trivial
 |r::rs,cs,i,h1,h2,h3,h4,h5=>by
  rw[ZP]at h2 h3;rw[List.all_append,Zg]at h2;have hr:r.length=W:=h1 r (by simp);have hl:=azi h3;rw[Za,hr]at hl;have k1:=az1 W h3;have k2:=aqp W h3;rw[show(r++rs.flatten).take W=r by rw[<-hr];simp]at k1;rw[show(r++rs.flatten).drop W=rs.flatten by rw[<-hr];simp]at k2;have e1:(i+1)*W=i*W+W:=by rw[YB,Zam]
  have e2:(rs.length+1)*W=rs.length*W+W:=by rw[YB,Zam]
  rw[RepRows];refine⟨⟨g,off,rfl,hr,bk5 r _ g _ k1 h2.1 (fun j hj=>h4 j (by simp only[Zf];omega)) fun j v hv=>?_⟩,aqi rs _ (i+1) (fun r' hr'=>h1 r' (by simp[hr'])) h2.2 k2 (fun j hj=>?_) fun j v hv=>?_⟩
  ·rw[List.getElem?_take]at hv;split at hv
   ·exact h5 j v hv
   ·cases hv
  ·have:=h4 (W+j) (by simp only[Zf];omega)
   rwa [show off+i*W+(W+j)=off+(i+1)*W+j by omega]at this
  ·rw[List.getElem?_drop]at hv;have:=h5 _ v hv
   rwa [show off+i*W+(W+j)=off+(i+1)*W+j by omega]at this
theorem axt{W g off:Nat}:∀{rows:List (List A)} {i:Nat},RepRows C W rows (some ⟨g,off,none⟩) i->∃cs:List Value,RepL C rows.flatten cs/\cs.length=rows.length*W/\rows.flatten.all A.data=true/\(∀r∈rows,r.length=W) /\
  (∀(j:Nat) (v:Value),cs[j]?=some v->C.w.cell? ⟨g,off+i*W+j,none⟩=some v)
 |[],i,h=>⟨[],azp.2 rfl,by simp,rfl,by simp,fun j v hv=>by simp at hv⟩
 |r::rs,i,h=>by
  rw[RepRows]at h;obtain⟨⟨g',off',e,hr,hat⟩,hrs⟩:=h;injection e with e;injection e with e1 e2;subst e1;subst e2;obtain⟨cs1,k1,k2⟩:=aj1 hat;obtain⟨cs2,m1,m2,m3,m4,m5⟩:=axt hrs;have hl1:cs1.length=W:=(azi k1).trans hr;have e1:(i+1)*W=i*W+W:=by rw[YB,Zam]
  refine⟨cs1++cs2,?_,?_,?_,?_,fun j v hv=>?_⟩
  ·rw[ZP];exact azo k1 m1
  ·rw[Za,hl1,m2,Zf,YB,Zam];omega
  ·rw[ZP,List.all_append,Zg];exact⟨bzb hat,m3⟩
  ·intro r' hr';rcases ZL.1 hr' with rfl|hm
   ·exact hr
   ·exact m4 r' hm
  ·rw[YZ]at hv;split at hv
   ·exact k2 j v hv
   ·have:=m5 _ v hv;rw[show off+(i+1)*W+(j-cs1.length)=off+i*W+j by omega]at this;exact this
theorem axn{x:A}{v:Value}(hr:Rep C x v):RepL C x.cells v.cells.toList:=by
 cases x with
 |agg l=>
  obtain⟨cs,rfl,hl⟩:=rep_agg.1 hr;simpa [A.cells,Value.cells]using hl
 |_=>
  have e:v.cells.toList=[v]:=by
   first
    |(rw[rep_int]at hr;subst hr;rfl)
    |(rw[rep_str]at hr;subst hr;rfl)
    |(rw[aqn]at hr;subst hr;rfl)
    |(rw[az2]at hr;subst hr;rfl)
    |(rw[bk9]at hr;subst hr;rfl)
    |(rw[bw6]at hr;subst hr;rfl)
    |(rw[axw]at hr;subst hr;rfl)
    |(obtain⟨rfl,_⟩:=rep_mp.1 hr;rfl)
    |(obtain⟨cap,rfl,_⟩:=rep_bs.1 hr;rfl)
    |(obtain⟨ad,cap,rfl,_⟩:=rep_sl.1 hr;rfl)
    |(obtain⟨rfl,_⟩:=rep_ptr.1 hr;rfl)
    |(obtain⟨g,off,rfl,_⟩:=rep_vptr.1 hr;rfl)
    |(obtain⟨cs,rfl,_⟩:=rep_fn.1 hr;unfold fnV;split<;>rfl)
    |(obtain⟨cs,rfl,_⟩:=rep_tup.1 hr;rfl)
  rw[e];exact repL_cons.2 ⟨v,[],rfl,hr,azp.2 rfl⟩
theorem dxd{x:A}{v:Value}(hr:Rep C x v)(h1:x.one=true):v.oneCell'=true:=by
 cases x with
 |agg l=>simp[A.one]at h1
 |tup l=>simp[A.one]at h1
 |_=>
  first
   |(rw[rep_int]at hr;subst hr;rfl)
   |(rw[rep_str]at hr;subst hr;rfl)
   |(rw[aqn]at hr;subst hr;rfl)
   |(rw[az2]at hr;subst hr;rfl)
   |(rw[bk9]at hr;subst hr;rfl)
   |(rw[bw6]at hr;subst hr;rfl)
   |(rw[axw]at hr;subst hr;rfl)
   |(obtain⟨rfl,_⟩:=rep_mp.1 hr;rfl)
   |(obtain⟨cap,rfl,_⟩:=rep_bs.1 hr;rfl)
   |(obtain⟨ad,cap,rfl,_⟩:=rep_sl.1 hr;rfl)
   |(obtain⟨rfl,_⟩:=rep_ptr.1 hr;rfl)
   |(obtain⟨g,off,rfl,_⟩:=rep_vptr.1 hr;rfl)
   |(obtain⟨cs,rfl,_⟩:=rep_fn.1 hr;unfold fnV;split<;>rfl)
theorem aqo:∀{l:List A} {cs:List Value},RepL C l cs->l.all A.one=true->∀v∈cs,v.oneCell'=true
 |[],cs,hr,h1=>by rw[azp]at hr;subst hr;simp
 |x::l,cs,hr,h1=>by
  obtain⟨c,cs',rfl,k1,k2⟩:=repL_cons.1 hr;rw[ZK,Zg]at h1;intro v hv;rcases ZL.1 hv with rfl|hm
  ·exact dxd k1 h1.1
  ·exact aqo k2 h1.2 v hm
theorem bvc{w:World}{T:TypeId}{l:List A}{cs:List Value}(hw:w=C.w\/w=C.w.drew)(hI:Inv G C h)(hl:RepL C l cs):
  ∃C':Ctx,C'.w=w.alloc (.cells cs.toArray T)/\Inv G C' ⟨h.b++[.cells T l],h.t⟩/\Step C C'/\Rep C' (.ptr h.b.length 0) (.pointer (some ⟨C.w.heap.size,0,none⟩)):=by
 have hh:w.heap=C.w.heap:=by rcases hw with rfl|rfl<;>rfl
 have hos:w.os=C.w.os/\w.tape=C.w.tape/\w.output=C.w.output:=by rcases hw with rfl|rfl<;>exact⟨rfl,rfl,rfl⟩
 let C':Ctx:={ C with w:=w.alloc (.cells cs.toArray T),κ:=fun i=>if i=C.nb then C.w.heap.size else C.κ i,nb:=C.nb+1,own:=fun g=>if g=C.w.heap.size then some C.nb else C.own g,lab:=fun i=>if i=C.nb then C.nb else C.lab i }
 have hblk:∀g,g<C.w.heap.size->C'.w.heap[g]?=C.w.heap[g]?:=fun g hg=>by
  show(w.alloc (.cells cs.toArray T)).heap[g]?=_
  rw[Below.heap_alloc w _ g (by rw[hh];exact hg),hh]
 have hsz:C'.w.heap.size=C.w.heap.size+1:=by show(w.alloc (.cells cs.toArray T)).heap.size=_;simp[hh]
 have hE:Ext C C':=by
  refine⟨fun g j hs=>⟨hs,cell_of_block (hblk g (hI.prot g j hs).1)⟩,Nat.le_succ _,fun i hi=>?_,fun t E W m ht=>?_⟩
  ·refine⟨?_,rfl,?_⟩
   ·show(if i=C.nb then C.w.heap.size else C.κ i)=C.κ i
    rw[if_neg (by omega)]
   ·show(if i=C.nb then C.nb else C.lab i)=C.lab i
    rw[if_neg (by omega)]
  ·obtain⟨_,_,cap,h1,_⟩:=hI.rows t E W m ht;exact⟨m,ht,.inr ⟨rfl,rfl,fun cap hc=>hc.same (hblk _ h1.lt)⟩⟩
 have hown:∀g,g<C.w.heap.size->C'.own g=C.own g:=fun g hg=>by
  show(if g=C.w.heap.size then some C.nb else C.own g)=_
  rw[if_neg (by omega)]
 have hown':∀g i,i<C.nb->(C'.own g=some i↔C.own g=some i):=fun g i hi=>by
  show(if g=C.w.heap.size then some C.nb else C.own g)=some i↔_
  split
  ·next e=>exact⟨fun e=>by injection e with e;omega,fun e'=>by have:=(hI.ownlt g i e').2.1;omega⟩
  ·exact Iff.rfl
 refine⟨C',rfl,⟨?_,fun i b hib=>?_,hI.ownk.push hI.nb (fun g i hg=>⟨(hI.ownlt g i hg).1,(hI.ownlt g i hg).2.1⟩) (Ze _) (fun _=>rfl) (fun _=>rfl) (fun _=>rfl),fun g i hg=>?_,fun g j hs=>?_,fun t E W m ht=>?_,hI.inj,hI.toks,?_,fun w2 hw2=>?_⟩,⟨hE,hos.1,hos.2.1,hos.2.2,by omega,rfl,fun g hg _ _=>hblk g hg,hown,fun g j hs=> .inl hs,fun t ht=> .inr ⟨ht,rfl⟩⟩,?_⟩
 ·show(h.b++[Blk.cells T l]).length=C.nb+1
  rw[Za,hI.nb];rfl
 ·rw[YZ]at hib;split at hib
  ·next hi=>
   have hi':i<C.nb:=by rw[<-hI.nb];exact hi
   exact(hI.box i b hib).ext hE hi' (fun hl=>⟨hI.ok hib hl,fun g hg=>hblk g (hI.ownlt g _ hg).2.1,fun g=>hown' g _ (hI.lablt hib hl)⟩) (by omega)
  ·next hi=>
   have hk:i-h.b.length=0:=by
    rcases Nat.eq_zero_or_pos (i-h.b.length)with e|e
    ·exact e
    ·rw[Yh (by simp only[Zf,Zo];omega)]at hib;cases hib
   rw[hk]at hib;simp only[ZU,Zc]at hib;subst hib;have hi':i=C.nb:=by have:=hI.nb;omega
   refine⟨cs,?_,RepL.ext hE l cs hl⟩;show(w.alloc (.cells cs.toArray T)).heap[if i=C.nb then C.w.heap.size else C.κ i]?=_
   rw[if_pos hi',<-hh];exact heap_alloc_new w _
 ·have hg':(if g=C.w.heap.size then some C.nb else C.own g)=some i:=hg;split at hg'
  ·next e=>
   injection hg' with hg';exact⟨by show i<C.nb+1;omega,by omega,by rw[e];exact hI.base⟩
  ·obtain⟨k1,k2,k3⟩:=hI.ownlt g i hg';exact⟨by show i<C.nb+1;omega,by omega,k3⟩
 ·obtain⟨k1,k2,k3⟩:=hI.prot g j hs;exact⟨by omega,(hown g k1).trans k2,k3⟩
 ·obtain⟨k1,k2,cap,k3,k4⟩:=hI.rows t E W m ht;exact⟨(hown _ k3.lt).trans k1,k2,cap,k3.same (hblk _ k3.lt),k4⟩
 ·show C.base<=C'.w.heap.size
  have:=hI.base;omega
 ·exact hI.glob w2 fun g hg=>(hw2 g hg).trans (hblk g (ZG hg hI.base))
 ·refine rep_ptr.2 ⟨?_,by show h.b.length<C.nb+1;have:=hI.nb;omega⟩;show _=Value.pointer (some ⟨if h.b.length=C.nb then C.w.heap.size else C.κ h.b.length,0,none⟩)
  rw[if_pos hI.nb]
theorem cj8{T:TypeId}{i:TypeInfo}{z:Value}{l:List A}(hI:Inv G C h)(hop:o.op=.alloc T)(hi:P.info? T=some i)(hz:i.zero=some z)(hl:convs z.cells.toList=some l):OpOk P G C a o (.ptr h.b.length 0) ⟨h.b++[.cells T l],h.t⟩:=by
 obtain⟨C',h1,h2,h3,h4⟩:=bvc (T:=T) (w:=C.w) (.inl rfl) hI (ax4 hl);refine⟨C',_,.inl ?_,h2,h3,h4⟩;rw[h1];unfold execOp;simp[hop,Instr.alloc,zeroValue,typeInfo,hi,hz,newVar,newRow]
theorem dx5{T:TypeId}{x:Operand}{u:A}(hI:Inv G C h)(hop:o.op=.box T x)(hx:Rep C u (a.eval x)):OpOk P G C a o (.ptr h.b.length 0) ⟨h.b++[.cells T u.cells],h.t⟩:=by
 obtain⟨C',h1,h2,h3,h4⟩:=bvc (T:=T) (w:=C.w) (.inl rfl) hI (axn hx);refine⟨C',_,.inl ?_,h2,h3,h4⟩;rw[h1];unfold execOp;simp[hop,Instr.box,newVar,newRow]
theorem byr{w:World}{T:TypeId}{cs:List Value}(hw:w=C.w\/w=C.w.drew)(hI:Inv G C h):
  ∃C':Ctx,C'.w=w.alloc (.cells cs.toArray T)/\Inv G C' h/\Step C C'/\(∀j,j<cs.length->C'.S C.w.heap.size j)/\(∀(j:Nat) (v:Value),cs[j]?=some v->C'.w.cell? ⟨C.w.heap.size,j,none⟩=some v):=by
 have hh:w.heap=C.w.heap:=by rcases hw with rfl|rfl<;>rfl
 have hos:w.os=C.w.os/\w.tape=C.w.tape/\w.output=C.w.output:=by rcases hw with rfl|rfl<;>exact⟨rfl,rfl,rfl⟩
 let C':Ctx:={ C with w:=w.alloc (.cells cs.toArray T),S:=fun g j=>C.S g j\/(g=C.w.heap.size/\j<cs.length) }
 have hblk:∀g,g<C.w.heap.size->C'.w.heap[g]?=C.w.heap[g]?:=fun g hg=>by
  show(w.alloc (.cells cs.toArray T)).heap[g]?=_
  rw[Below.heap_alloc w _ g (by rw[hh];exact hg),hh]
 have hsz:C'.w.heap.size=C.w.heap.size+1:=by show(w.alloc (.cells cs.toArray T)).heap.size=_;simp[hh]
 have hnew:C'.w.heap[C.w.heap.size]?=some (.cells cs.toArray T (0,0)):=by
  show(w.alloc (.cells cs.toArray T)).heap[C.w.heap.size]?=_
  rw[<-hh];exact heap_alloc_new w _
 have hE:Ext C C':=by
  refine⟨fun g j hs=>⟨.inl hs,cell_of_block (hblk g (hI.prot g j hs).1)⟩,Ze _,fun i hi=>⟨rfl,rfl,rfl⟩,fun t E W m ht=>?_⟩;obtain⟨_,_,cap,h1,_⟩:=hI.rows t E W m ht;exact⟨m,ht,.inr ⟨rfl,rfl,fun cap hc=>hc.same (hblk _ h1.lt)⟩⟩
 have hno:C.own C.w.heap.size=none:=by
  cases e:C.own C.w.heap.size with
  |none=>rfl
  |some i=>have:=(hI.ownlt _ _ e).2.1;omega
 refine⟨C',rfl,⟨hI.nb,fun i b hib=>?_,hI.ownk,fun g i hg=>?_,fun g j hs=>?_,fun t E W m ht=>?_,hI.inj,hI.toks,?_,fun w2 hw2=>?_⟩,⟨hE,hos.1,hos.2.1,hos.2.2,by omega,rfl,fun g hg _ _=>hblk g hg,fun _ _=>rfl,fun g j hs=>?_,fun t ht=> .inr ⟨ht,rfl⟩⟩,fun j hj=> .inr ⟨rfl,hj⟩,fun j v hv=>?_⟩
 ·have hi':i<C.nb:=by rw[<-hI.nb];exact(Zb.1 hib).1
  exact(hI.box i b hib).ext hE hi' (fun hl=>⟨hI.ok hib hl,fun g hg=>hblk g (hI.ownlt g _ hg).2.1,fun g=>Iff.rfl⟩) (by omega)
 ·obtain⟨k1,k2,k3⟩:=hI.ownlt g i hg;exact⟨k1,by omega,k3⟩
 ·rcases hs with hs|⟨rfl,hj⟩
  ·obtain⟨k1,k2,k3⟩:=hI.prot g j hs;exact⟨by omega,k2,k3⟩
  ·refine⟨by omega,hno,fun t E W m ht e=>?_⟩;obtain⟨_,_,cap,k3,k4⟩:=hI.rows t E W m ht;have:=k3.lt;have e':C.τ t=C.w.heap.size:=e;omega
 ·obtain⟨k1,k2,cap,k3,k4⟩:=hI.rows t E W m ht;exact⟨k1,k2,cap,k3.same (hblk _ k3.lt),k4⟩
 ·show C.base<=C'.w.heap.size
  have:=hI.base;omega
 ·exact hI.glob w2 fun g hg=>(hw2 g hg).trans (hblk g (ZG hg hI.base))
 ·rcases hs with hs|⟨rfl,hj⟩
  ·exact .inl hs
  ·exact .inr (.inl (Ze _))
 ·rw[cell_of_row _ _ _ _ _ _ hnew];simpa using hv
theorem cx9{i off:Nat}{T:TypeId}{l xs:List A}{cs vs:List Value}(hI:Inv G C h)(hb:h.b[i]?=some (.cells T l))(hc:C.w.heap[C.κ i]?=some (.cells cs.toArray T (0,0)))(hl:RepL C l cs)(hx:RepL C xs vs)(hle:off+xs.length<=l.length):
  ∃C':Ctx,C'.w=C.w.setRow (C.κ i) (cs.take off++vs++cs.drop (off+vs.length)).toArray/\Inv G C' ⟨h.b.set i (.cells T (setCells l off xs)),h.t⟩/\Step C C':=by
 have hi:i<C.nb:=by rw[<-hI.nb];exact(Zb.1 hb).1
 have hok:=hI.ok hb rfl
 let C':Ctx:={ C with w:=C.w.setRow (C.κ i) (cs.take off++vs++cs.drop (off+vs.length)).toArray }
 have hblk:∀g,g≠C.κ i->C'.w.heap[g]?=C.w.heap[g]?:=fun g hg=>setRow_other C.w _ g _ hg
 have hsz:C'.w.heap.size=C.w.heap.size:=setRow_size _ _ _;have hne:∀g,C.own g=none->g≠C.κ i:=fun g hg e=>by rw[e,hok]at hg;cases hg
 have hE:Ext C C':=by
  refine⟨fun g j hs=>⟨hs,cell_of_block (hblk g (hne g (hI.prot g j hs).2.1))⟩,Ze _,fun i hi=>⟨rfl,rfl,rfl⟩,fun t E W m ht=>?_⟩;obtain⟨k1,_,cap,h1,_⟩:=hI.rows t E W m ht;exact⟨m,ht,.inr ⟨rfl,rfl,fun cap hc=>hc.same (hblk _ (hne _ k1))⟩⟩
 have hset:∀(xs l:List A) (off:Nat),off+xs.length<=l.length->setCells l off xs=l.take off++xs++l.drop (off+xs.length):=by
  intro xs;induction xs with
  |nil=>intro l off _;simp[setCells]
  |cons x xs ih=>
   intro l off hlt;rw[Zf]at hlt;rw[setCells,ih _ _ (by simp;omega),List.take_add_one,YE (by omega),List.take_set_of_le (Ze _),List.drop_set_of_lt (by omega)];simp[show off+1+xs.length=off+(xs.length+1) by omega]
 have hvl:vs.length=xs.length:=azi hx;refine⟨C',rfl,⟨by rw[ZA];exact hI.nb,fun j b hjb=>?_,hI.ownk.set hb (fun _=>rfl) (fun _=>rfl) (fun _ _ e=>e) (fun _=>rfl),fun g i hg=>?_,fun g j hs=>?_,fun t E W m ht=>?_,hI.inj,hI.toks,?_,fun w2 hw2=>?_⟩,⟨hE,rfl,rfl,rfl,by omega,rfl,fun g hg ho _=>hblk g (hne g ho),fun _ _=>rfl,fun g j hs=> .inl hs,fun t ht=> .inr ⟨ht,rfl⟩⟩⟩
 ·rw[Zm]at hjb;split at hjb
  ·next e=>
   subst e;split at hjb
   ·injection hjb with hjb;subst hjb;refine⟨cs.take off++vs++cs.drop (off+vs.length),setRow_heap C.w (C.κ i) _ _ T _ hc,?_⟩;rw[hset xs l off hle,hvl];exact azo (azo (az1 _ (RepL.ext hE _ _ hl)) (RepL.ext hE _ _ hx)) (aqp _ (RepL.ext hE _ _ hl))
   ·cases hjb
  ·next hne'=>
   have hj:j<C.nb:=by rw[<-hI.nb];exact(Zb.1 hjb).1
   refine(hI.box j b hjb).ext hE hj (fun hl=>⟨hI.ok hjb hl,fun g hg=>hblk g fun e=>?_,fun g=>Iff.rfl⟩) (by omega);rw[e,hok]at hg;injection hg with hg;exact hI.labne hb hjb rfl hl hne' hg
 ·obtain⟨k1,k2,k3⟩:=hI.ownlt g i hg;exact⟨k1,by omega,k3⟩
 ·obtain⟨k1,k2,k3⟩:=hI.prot g j hs;exact⟨by omega,k2,k3⟩
 ·obtain⟨k1,k2,cap,k3,k4⟩:=hI.rows t E W m ht;exact⟨k1,k2,cap,k3.same (hblk _ (hne _ k1)),k4⟩
 ·show C.base<=C'.w.heap.size
  have:=hI.base;omega
 ·refine hI.glob w2 fun g hg=>(hw2 g hg).trans (hblk g fun e=>?_)
  have:=(hI.ownlt _ _ hok).2.2;have e':g=C.κ i:=e;omega
theorem cx1{i off:Nat}{T:TypeId}{l xs:List A}{cs vs rest:List Value}(hI:Inv G C h)(hb:h.b[i]?=some (.row T l))(hc:C.w.heap[C.κ i]?=some (.cells (cs++rest).toArray T (0,0)))(hl:RepL C l cs)(hkap:(cs++rest).length=C.kap i)(hx:RepL C xs vs)(hle:off+xs.length<=l.length):
  ∃C':Ctx,C'.w=C.w.setRow (C.κ i) (cs.take off++vs++cs.drop (off+vs.length)++rest).toArray/\Inv G C' ⟨h.b.set i (.row T (setCells l off xs)),h.t⟩/\Step C C':=by
 have hi:i<C.nb:=by rw[<-hI.nb];exact(Zb.1 hb).1
 have hok:=hI.ok hb rfl
 let C':Ctx:={ C with w:=C.w.setRow (C.κ i) (cs.take off++vs++cs.drop (off+vs.length)++rest).toArray }
 have hblk:∀g,g≠C.κ i->C'.w.heap[g]?=C.w.heap[g]?:=fun g hg=>setRow_other C.w _ g _ hg
 have hsz:C'.w.heap.size=C.w.heap.size:=setRow_size _ _ _;have hne:∀g,C.own g=none->g≠C.κ i:=fun g hg e=>by rw[e,hok]at hg;cases hg
 have hE:Ext C C':=by
  refine⟨fun g j hs=>⟨hs,cell_of_block (hblk g (hne g (hI.prot g j hs).2.1))⟩,Ze _,fun i hi=>⟨rfl,rfl,rfl⟩,fun t E W m ht=>?_⟩;obtain⟨k1,_,cap,h1,_⟩:=hI.rows t E W m ht;exact⟨m,ht,.inr ⟨rfl,rfl,fun cap hc=>hc.same (hblk _ (hne _ k1))⟩⟩
 have hset:∀(xs l:List A) (off:Nat),off+xs.length<=l.length->setCells l off xs=l.take off++xs++l.drop (off+xs.length):=by
  intro xs;induction xs with
  |nil=>intro l off _;simp[setCells]
  |cons x xs ih=>
   intro l off hlt;rw[Zf]at hlt;rw[setCells,ih _ _ (by simp;omega),List.take_add_one,YE (by omega),List.take_set_of_le (Ze _),List.drop_set_of_lt (by omega)];simp[show off+1+xs.length=off+(xs.length+1) by omega]
 have hvl:vs.length=xs.length:=azi hx;refine⟨C',rfl,⟨by rw[ZA];exact hI.nb,fun j b hjb=>?_,hI.ownk.set hb (fun _=>rfl) (fun _=>rfl) (fun _ _ e=>e) (fun _=>rfl),fun g i hg=>?_,fun g j hs=>?_,fun t E W m ht=>?_,hI.inj,hI.toks,?_,fun w2 hw2=>?_⟩,⟨hE,rfl,rfl,rfl,by omega,rfl,fun g hg ho _=>hblk g (hne g ho),fun _ _=>rfl,fun g j hs=> .inl hs,fun t ht=> .inr ⟨ht,rfl⟩⟩⟩
 ·rw[Zm]at hjb;split at hjb
  ·next e=>
   subst e;split at hjb
   ·injection hjb with hjb;subst hjb
    refine⟨cs.take off++vs++cs.drop (off+vs.length),rest,setRow_heap C.w (C.κ i) _ _ T _ hc,?_,by
     have hcl:=azi hl;rw[<-show(cs++rest).length=C'.kap i from hkap]
     simp only[Za,Zk,ZC];omega⟩
    rw[hset xs l off hle,hvl];exact azo (azo (az1 _ (RepL.ext hE _ _ hl)) (RepL.ext hE _ _ hx)) (aqp _ (RepL.ext hE _ _ hl))
   ·cases hjb
  ·next hne'=>
   have hj:j<C.nb:=by rw[<-hI.nb];exact(Zb.1 hjb).1
   refine(hI.box j b hjb).ext hE hj (fun hl=>⟨hI.ok hjb hl,fun g hg=>hblk g fun e=>?_,fun g=>Iff.rfl⟩) (by omega);rw[e,hok]at hg;injection hg with hg;exact hI.labne hb hjb rfl hl hne' hg
 ·obtain⟨k1,k2,k3⟩:=hI.ownlt g i hg;exact⟨k1,by omega,k3⟩
 ·obtain⟨k1,k2,k3⟩:=hI.prot g j hs;exact⟨by omega,k2,k3⟩
 ·obtain⟨k1,k2,cap,k3,k4⟩:=hI.rows t E W m ht;exact⟨k1,k2,cap,k3.same (hblk _ (hne _ k1)),k4⟩
 ·show C.base<=C'.w.heap.size
  have:=hI.base;omega
 ·refine hI.glob w2 fun g hg=>(hw2 g hg).trans (hblk g fun e=>?_)
  have:=(hI.ownlt _ _ hok).2.2;have e':g=C.κ i:=e;omega
theorem cwt{t:TypeId}{it:TypeInfo}{p x:Operand}{u v:A}{h':Hp}(hI:Inv G C h)(hop:o.op=.store t p x)(hi:P.info? t=some it)(hp:Rep C u (a.eval p))(hx:Rep C v (a.eval x))(hs:storeA h it.size v u=some h'):OpOk P G C a o (.tup []) h':=by
 cases u with
 |ptr i off=>
  simp only[storeA]at hs;split at hs
  ·next T l hb=>
   split at hs
   ·next hcond=>
    injection hs with hs;subst hs;obtain⟨hn,hle,h1⟩:=hcond;obtain⟨e,hlt⟩:=rep_ptr.1 hp;obtain⟨cs,k1,k2⟩:=hI.box i _ hb;have hv:=axn hx;have hvl:=azi hv;obtain⟨C',m1,m2,m3⟩:=cx9 (off:=off) hI hb k1 k2 hv (by omega);refine⟨C',undef,.inr ⟨?_,rfl⟩,m2,m3,rep_tup.2 ⟨[],rfl,azp.2 rfl⟩⟩;have hrun:=run_storeCells_at P (C.κ i) off T (a.eval x).cells.toList 0 cs.toArray C.w k1 (by have:=azi k2;simp only[List.size_toArray,Yr];omega) (aqo hv h1);rw[m1];unfold execOp;have hsz:(a.eval x).cells.size=it.size:=by rw[<-ZO];omega
    simp only[hop,Instr.storeAt,e,Instr.sureAddr,storeVar,Sem.run_bind,Sem.run_pure,Result.andThen_ok,sizeOf,typeInfo,run_program,hi,hsz,ne_eq,Yw,if_false,hrun,Yr,List.toList_toArray]
   ·cases hs
  ·next T l hb=>
   split at hs
   ·next hcond=>
    injection hs with hs;subst hs;obtain⟨hn,hle,h1⟩:=hcond;obtain⟨e,hlt⟩:=rep_ptr.1 hp;obtain⟨cs,rest,k1,k2,k3⟩:=hI.box i _ hb;have hv:=axn hx;have hvl:=azi hv;have hcl:=azi k2;obtain⟨C',m1,m2,m3⟩:=cx1 (off:=off) hI hb k1 k2 k3 hv (by omega);refine⟨C',undef,.inr ⟨?_,rfl⟩,m2,m3,rep_tup.2 ⟨[],rfl,azp.2 rfl⟩⟩;have hrun:=run_storeCells_at P (C.κ i) off T (a.eval x).cells.toList 0 (cs++rest).toArray C.w k1 (by simp only[List.size_toArray,Yr,Za];omega) (aqo hv h1);rw[m1];unfold execOp;have hsz:(a.eval x).cells.size=it.size:=by rw[<-ZO];omega
    have e1:(cs++rest).take off=cs.take off:=List.take_append_of_le_length (by omega);have e2:(cs++rest).drop (off+(a.eval x).cells.toList.length)=cs.drop (off+(a.eval x).cells.toList.length)++rest:=List.drop_append_of_le_length (by omega);simp only[List.toList_toArray,Yr,e1,e2]at hrun;simp only[hop,Instr.storeAt,e,Instr.sureAddr,storeVar,Sem.run_bind,Sem.run_pure,Result.andThen_ok,sizeOf,typeInfo,run_program,hi,hsz,ne_eq,Yw,if_false,hrun,Yr,List.toList_toArray,Zi]
   ·cases hs
  ·cases hs
 |_=>simp[storeA]at hs
end
end AX
end
section
open Go.RowKit
namespace AX
section
variable {P:Program} {G:World->Prop} {C:Ctx} {a:Act} {o:Oper} {h:Hp} {ts:Nat->A} {n:Nat}
theorem aki:∀(xs:List A) (vs:List Value) (k off:Nat) (l:List A) (cells:Array Value),RepL C xs vs->RepL C l cells.toList ->
  RepL C (setCells l (off+k) xs) ((vs.zipIdx k).foldl (fun cs (p:Value×Nat)=>cs.setIfInBounds (off+p.2) p.1) cells).toList
 |[],vs,k,off,l,cells,hx,hl=>by
  rw[azp]at hx;subst hx;exact hl
 |x::xs,vs,k,off,l,cells,hx,hl=>by
  obtain⟨v,vs',rfl,h1,h2⟩:=repL_cons.1 hx;rw[List.zipIdx_cons,List.foldl_cons,setCells];have:=aki xs vs' (k+1) off (l.set (off+k) x) (cells.setIfInBounds (off+k) v) h2 ?_
  ·rw[show off+(k+1)=off+k+1 by omega]at this;exact this
  ·refine bqs _ _ (by simp[azi hl]) fun i y c h3 h4=>?_
   rw[Array.toList_setIfInBounds,Zm]at h4;rw[Zm]at h3;by_cases e:off+k=i
   ·simp only[e,if_true]at h3 h4;split at h3
    ·next hlt=>
     rw[if_pos (by rw[azi hl];exact hlt)]at h4;injection h3 with h3;injection h4 with h4;subst h3;subst h4;exact h1
    ·cases h3
   ·simp only[e,if_false]at h3 h4;obtain⟨c',k1,k2⟩:=axb hl i y h3;rw[k1]at h4;injection h4 with h4;subst h4
    exact k2
theorem bkz(hT:RepT C ts n a)(fs:Array Field)(pls:Array (Nat×Nat))(hpl:∀(j:Nat) (f:Field),fs[j]?=some f->∀it,P.info? f.type=some it->pls[j]?=some (f.offset,it.size)):
  ∀(parts:List (Nat×Operand)) (ps:List (Nat×Nat×Opd)) (z r:List A) (cells:Array Value),compParts P n fs parts=some ps->RepL C z cells.toList->fillA (evX ts) z ps=some r ->
  ∃out,Instr.fill (pls[·]?) cells (parts.map fun p=>(p.1,a.eval p.2))=some out/\RepL C r out.toList
 |[],ps,z,r,cells,hc,hz,hf=>by
  simp only[compParts,Zc]at hc;subst hc;simp only[fillA,Zc]at hf;subst hf;exact⟨cells,rfl,hz⟩
 |(j,x)::parts,ps,z,r,cells,hc,hz,hf=>by
  simp only[compParts,Zd,Zc]at hc;obtain⟨f,h1,it,h2,y,h3,l,h4,rfl⟩:=hc;simp only[fillA]at hf;split at hf
  ·next hcond=>
   have hx:=azh hT h3;have hcl:=axn hx;have hlen:=azi hcl;rw[ZO]at hlen;have hzl:=azi hz;rw[ZO]at hzl;have key:=aki (evX ts y).cells (a.eval x).cells.toList 0 f.offset z cells hcl hz;obtain⟨out,k1,k2⟩:=bkz hT fs pls hpl parts l _ r _ h4 (by simpa using key) hf;refine⟨out,?_,k2⟩;simp only[ZM,Instr.fill,hpl j f h1 it h2];rw[if_neg (by simp;omega)];rw[<-k1];congr 1;rw[<-Array.foldl_toList,Array.toList_zipIdx]
  ·cases hf
theorem cqa(fs:Array Field)(hall:fs.toList.all (fun f=>(P.info? f.type).isSome)=true):∃places:List (Nat×Nat),fs.toList.mapM (fun f=>(P.info? f.type).map fun i=>(f.offset,i.size))=some places/\∀(j:Nat) (f:Field),fs[j]?=some f->∀it,P.info? f.type=some it->places.toArray[j]?=some (f.offset,it.size):=by
 have key:∀l:List Field,l.all (fun f=>(P.info? f.type).isSome)=true->∃places:List (Nat×Nat),l.mapM (fun f=>(P.info? f.type).map fun i=>(f.offset,i.size))=some places/\∀(j:Nat) (f:Field),l[j]?=some f->∀it,P.info? f.type=some it->places[j]?=some (f.offset,it.size):=by
  intro l;induction l with
  |nil=>intro _;exact⟨[],rfl,fun j f h=>by simp at h⟩
  |cons f l ih=>
   intro hl;rw[ZK,Zg]at hl;obtain⟨ps,h1,h2⟩:=ih hl.2;obtain⟨it,hit⟩:=Option.isSome_iff_exists.1 hl.1;refine⟨(f.offset,it.size)::ps,by simp[List.mapM_cons,hit,h1],fun j g hj it' hit'=>?_⟩;cases j with
   |zero=>simp at hj;subst hj;rw[hit]at hit';injection hit' with e;subst e;rfl
   |succ j=>exact h2 j g (by simpa using hj) it' hit'
 obtain⟨ps,h1,h2⟩:=key _ hall;exact⟨ps,h1,fun j f hj it hit=>by simpa using h2 j f (by simpa using hj) it hit⟩
theorem cvc{t:TypeId}{parts:Array (Nat×Operand)}{fs:Array Field}{it:TypeInfo}{z:Value}{zl r:List A}{ps:List (Nat×Nat×Opd)}(hI:Inv G C h)(hT:RepT C ts n a)(hop:o.op=.build t parts)(ht:P.underlying t=some (.struct fs))(hall:fs.toList.all (fun f=>(P.info? f.type).isSome)=true)
  (hi:P.info? t=some it) (hz:it.zero=some z) (hzl:convs z.cells.toList=some zl) (hc:compParts P n fs parts.toList=some ps) (hf:fillA (evX ts) zl ps=some r):OpOk P G C a o (.agg r) h:=by
 obtain⟨places,h1,h2⟩:=cqa (P:=P) fs hall;obtain⟨out,k1,k2⟩:=bkz hT fs places.toArray h2 parts.toList ps zl r z.cells hc (ax4 hzl) hf;refine azs hI ?_ (rep_agg.2 ⟨out.toList,rfl,k2⟩);have hb:P.built t (parts.map fun p=>(p.1,a.eval p.2)).toList=some out:=by
  unfold Program.built;simp only[hi,ht,hz,h1,Array.toList_map];exact k1
 unfold execOp;simp[hop,run_build C.w t _ out hb]
theorem bqd(hT:RepT C ts n a)(W:Nat)(hW:0<W):∀(parts:List (Nat×Operand)) (ps:List Opd) (rows:List (List A)) (k:Nat) (pre:List Value) (suf:List Value),compRow n k parts=some ps->rowsA (evX ts) W ps=some rows->pre.length=k*W->suf.length=parts.length*W ->
  ∃out:List Value,Instr.fill (fun i=>some (i*W,W)) (pre++suf).toArray (parts.map fun p=>(p.1,a.eval p.2))=some (pre++out).toArray/\RepL C rows.flatten out/\rows.flatten.all A.data=true/\(∀r∈rows,r.length=W)/\rows.length=parts.length/\out.length=parts.length*W
 |[],ps,rows,k,pre,suf,hc,hr,hp,hs=>by
  simp only[compRow,Zc]at hc;subst hc;simp only[rowsA,Zc]at hr;subst hr;have:suf=[]:=ZN (by simpa using hs);subst this;exact⟨[],rfl,azp.2 rfl,rfl,by simp,rfl,by simp⟩
 |(j,x)::parts,ps,rows,k,pre,suf,hc,hr,hp,hs=>by
  simp only[compRow]at hc;split at hc
  ·next hj=>
   subst hj;simp only[Zd,Zc]at hc;obtain⟨y,h3,l,h4,rfl⟩:=hc;simp only[rowsA]at hr;split at hr
   ·next hcond=>
    simp only[Zv]at hr;obtain⟨rs,h5,rfl⟩:=hr;have hx:=azh hT h3;have hcl:=axn hx;have hlen:=azi hcl;have hsl:suf.length=W+parts.length*W:=by rw[hs,Zf,YB,Zam];omega
    obtain⟨out,k1,k2,k3,k4,k5,k6⟩:=bqd hT W hW parts l rs (j+1) (pre++(a.eval x).cells.toList) (suf.drop W) h4 h5 (by rw[Za,hp,hlen,hcond.1,YB,Zam]) (by rw[ZC,hsl];omega);refine⟨(a.eval x).cells.toList++out,?_,by rw[ZP];exact azo hcl k2,by rw[ZP,List.all_append,Zg];exact⟨hcond.2,k3⟩,?_,by simp[k5],by rw[Za,hlen,hcond.1,k6,Zf,YB,Zam];omega⟩
    ·simp only[ZM,Instr.fill];have hsz:(a.eval x).cells.size=W:=by rw[<-ZO,hlen,hcond.1]
     rw[if_neg (by simp[hsz,hp,hsl])];rw[<-Zi,<-k1];congr 1;apply Ya.1;rw[<-Array.foldl_toList,Array.toList_zipIdx];have hset:∀(vs:List Value) (q:Nat) (off:Nat) (cells:List Value),off+q+vs.length<=cells.length->((vs.zipIdx q).foldl (fun cs (p:Value×Nat)=>cs.setIfInBounds (off+p.2) p.1) cells.toArray).toList=cells.take (off+q)++vs++cells.drop (off+q+vs.length):=by
      intro vs;induction vs with
      |nil=>intro q off cells _;simp
      |cons v vs ih=>
       intro q off cells hle;rw[Zf]at hle;rw[List.zipIdx_cons,List.foldl_cons];have e:cells.toArray.setIfInBounds (off+q) v=(cells.set (off+q) v).toArray:=by simp
       rw[e,ih (q+1) off _ (by simp;omega),show off+(q+1)=off+q+1 by omega,List.take_add_one,YE (by omega),List.take_set_of_le (Ze _),List.drop_set_of_lt (by omega)];simp[show off+q+1+vs.length=off+q+(vs.length+1) by omega]
     rw[hset _ 0 (j*W) _ (by rw[ZO,hsz,Za,hp,hsl];omega)];rw[Yr,ZO,hsz];rw[show(pre++suf).take (j*W)=pre by rw[<-hp];simp,show(pre++suf).drop (j*W+W)=suf.drop W by rw[<-hp,<-Y6];simp]
    ·intro r hr;rcases ZL.1 hr with rfl|hm
     ·exact hcond.1
     ·exact k4 r hm
   ·cases hr
  ·cases hc
theorem bj4(hT:RepT C ts n a)(W:Nat)(hW:0<W):∀(parts:List (Nat×Operand)) (ps:List Opd) (rows:List (List A)) (k:Nat) (pre:List Value) (suf:List Value),compRow n k parts=some ps->rowsR (evX ts) W ps=some rows->pre.length=k*W->suf.length=parts.length*W ->
  ∃out:List Value,Instr.fill (fun i=>some (i*W,W)) (pre++suf).toArray (parts.map fun p=>(p.1,a.eval p.2))=some (pre++out).toArray/\RepL C rows.flatten out/\(∀r∈rows,r.length=W)/\rows.length=parts.length/\out.length=parts.length*W
 |[],ps,rows,k,pre,suf,hc,hr,hp,hs=>by
  simp only[compRow,Zc]at hc;subst hc;simp only[rowsR,Zc]at hr;subst hr;have:suf=[]:=ZN (by simpa using hs);subst this;exact⟨[],rfl,azp.2 rfl,by simp,rfl,by simp⟩
 |(j,x)::parts,ps,rows,k,pre,suf,hc,hr,hp,hs=>by
  simp only[compRow]at hc;split at hc
  ·next hj=>
   subst hj;simp only[Zd,Zc]at hc;obtain⟨y,h3,l,h4,rfl⟩:=hc;simp only[rowsR]at hr;split at hr
   ·next hcond=>
    simp only[Zv]at hr;obtain⟨rs,h5,rfl⟩:=hr;have hx:=azh hT h3;have hcl:=axn hx;have hlen:=azi hcl;have hsl:suf.length=W+parts.length*W:=by rw[hs,Zf,YB,Zam];omega
    obtain⟨out,k1,k2,k4,k5,k6⟩:=bj4 hT W hW parts l rs (j+1) (pre++(a.eval x).cells.toList) (suf.drop W) h4 h5 (by rw[Za,hp,hlen,hcond,YB,Zam]) (by rw[ZC,hsl];omega);refine⟨(a.eval x).cells.toList++out,?_,by rw[ZP];exact azo hcl k2,?_,by simp[k5],by rw[Za,hlen,hcond,k6,Zf,YB,Zam];omega⟩
    ·simp only[ZM,Instr.fill];have hsz:(a.eval x).cells.size=W:=by rw[<-ZO,hlen,hcond]
     rw[if_neg (by simp[hsz,hp,hsl])];rw[<-Zi,<-k1];congr 1;apply Ya.1;rw[<-Array.foldl_toList,Array.toList_zipIdx];have hset:∀(vs:List Value) (q:Nat) (off:Nat) (cells:List Value),off+q+vs.length<=cells.length->((vs.zipIdx q).foldl (fun cs (p:Value×Nat)=>cs.setIfInBounds (off+p.2) p.1) cells.toArray).toList=cells.take (off+q)++vs++cells.drop (off+q+vs.length):=by
      intro vs;induction vs with
      |nil=>intro q off cells _;simp
      |cons v vs ih=>
       intro q off cells hle;rw[Zf]at hle;rw[List.zipIdx_cons,List.foldl_cons];have e:cells.toArray.setIfInBounds (off+q) v=(cells.set (off+q) v).toArray:=by simp
       rw[e,ih (q+1) off _ (by simp;omega),show off+(q+1)=off+q+1 by omega,List.take_add_one,YE (by omega),List.take_set_of_le (Ze _),List.drop_set_of_lt (by omega)];simp[show off+q+1+vs.length=off+q+(vs.length+1) by omega]
     rw[hset _ 0 (j*W) _ (by rw[ZO,hsz,Za,hp,hsl];omega)];rw[Yr,ZO,hsz];rw[show(pre++suf).take (j*W)=pre by rw[<-hp];simp,show(pre++suf).drop (j*W+W)=suf.drop W by rw[<-hp,<-Y6];simp]
    ·intro r hr;rcases ZL.1 hr with rfl|hm
     ·exact hcond
     ·exact k4 r hm
   ·cases hr
  ·cases hc
theorem djb{t E:TypeId}{len:Nat}{parts:Array (Nat×Operand)}{it:TypeInfo}{z:Value}{ps:List Opd}{rows:List (List A)}(hI:Inv G C h)(hT:RepT C ts n a)(hop:o.op=.buildSlice t len parts)(ht:P.underlying t=some (.slice E))(hi:P.info? E=some it)(hz:it.zero=some z)
  (hzs:z.cells.size=it.size) (hpos:0<it.size) (hpl:parts.toList.length=len) (hl0:0<len) (hsm:len*it.size<=1000) (hc:compRow n 0 parts.toList=some ps) (hr:rowsA (evX ts) it.size ps=some rows):OpOk P G C a o (.sl it.size .no rows) h:=by
 have hsl:((Array.range (len*it.size)).map (z.cells[· % z.cells.size]!)).toList.length=parts.toList.length*it.size:=by simp[hpl]
 obtain⟨out,k1,k2,k3,k4,k5,k6⟩:=bqd hT it.size hpos parts.toList ps rows 0 [] _ hc hr (by simp) hsl;have hlen:rows.length=len:=by rw[k5,hpl]
 simp only[Zq,Array.toArray_toList]at k1;obtain⟨C',m1,m2,m3,m4,m5⟩:=byr (T:=E) (cs:=out) (w:=C.w) (.inl rfl) hI;refine⟨C',.slice (some ⟨C.w.heap.size,0,none⟩) len len,.inl ?_,m2,m3,rep_sl.2 ⟨some ⟨C.w.heap.size,0,none⟩,len,by rw[hlen],by omega,aqi rows out 0 k4 k3 (RepL.ext m3.ext _ _ k2) (fun j hj=>?_) (fun j v hv=>?_),trivial⟩⟩
 ·rw[m1];have hrun:=run_buildSlice (P:=P) C.w t E len (parts.map fun p=>(p.1,a.eval p.2)) out.toArray it z ht hi hz (by omega) (by have:=Nat.mul_pos hl0 hpos;omega) (by rw[Array.toList_map];exact k1);unfold execOp;simp only[hop,Sem.run_bind];erw [hrun];rfl
 ·rw[show 0+0*it.size+j=j by omega];exact m4 j (by rw[k6,<-k5];exact hj)
 ·rw[show 0+0*it.size+j=j by omega];exact m5 j v hv
theorem ajd{w':World}{g:Nat}{T:TypeId}{l:List A}{cs rest:List Value}(hI:Inv G C h)(hb:Below C.w.heap.size C.w w')(hg:C.w.heap.size<=g)(hh:w'.heap[g]?=some (.cells (cs++rest).toArray T (0,0)))(hl:RepL C l cs):
  ∃C':Ctx,C'.w=w'/\Inv G C' ⟨h.b++[.row T l],h.t⟩/\Step C C'/\C'.κ h.b.length=g/\h.b.length<C'.nb/\C'.kap h.b.length=(cs++rest).length:=by
 have hglt:g<w'.heap.size:=(ZS.1 hh).1
 let C':Ctx:={ C with w:=w',κ:=fun i=>if i=C.nb then g else C.κ i,nb:=C.nb+1,own:=fun k=>if k=g then some C.nb else C.own k,kap:=fun i=>if i=C.nb then(cs++rest).length else C.kap i,lab:=fun i=>if i=C.nb then C.nb else C.lab i }
 have hblk:∀k,k<C.w.heap.size->C'.w.heap[k]?=C.w.heap[k]?:=fun k hk=>hb.block k hk
 have hsz:C.w.heap.size<=C'.w.heap.size:=hb.size;have hE:Ext C C':=by
  refine⟨fun k j hs=>⟨hs,cell_of_block (hblk k (hI.prot k j hs).1)⟩,Nat.le_succ _,fun i hi=>?_,fun t E W m ht=>?_⟩
  ·refine⟨?_,?_,?_⟩
   ·show(if i=C.nb then g else C.κ i)=C.κ i
    rw[if_neg (by omega)]
   ·show(if i=C.nb then(cs++rest).length else C.kap i)=C.kap i
    rw[if_neg (by omega)]
   ·show(if i=C.nb then C.nb else C.lab i)=C.lab i
    rw[if_neg (by omega)]
  ·obtain⟨_,_,cap,h1,_⟩:=hI.rows t E W m ht;exact⟨m,ht,.inr ⟨rfl,rfl,fun cap hc=>hc.same (hblk _ h1.lt)⟩⟩
 have hown:∀k,k<C.w.heap.size->C'.own k=C.own k:=fun k hk=>by
  show(if k=g then some C.nb else C.own k)=_
  rw[if_neg (by omega)]
 have hown':∀k i,i<C.nb->(C'.own k=some i↔C.own k=some i):=fun k i hi=>by
  show(if k=g then some C.nb else C.own k)=some i↔_
  split
  ·next e=>exact⟨fun e=>by injection e with e;omega,fun e'=>by have:=(hI.ownlt k i e').2.1;omega⟩
  ·exact Iff.rfl
 refine⟨C',rfl,⟨?_,fun i b hib=>?_,hI.ownk.push hI.nb (fun g i hg=>⟨(hI.ownlt g i hg).1,(hI.ownlt g i hg).2.1⟩) hg (fun _=>rfl) (fun _=>rfl) (fun _=>rfl),fun k i hk=>?_,fun k j hs=>?_,fun t E W m ht=>?_,hI.inj,hI.toks,?_,fun w2 hw2=>?_⟩,⟨hE,hb.os,hb.tape,hb.output,hsz,rfl,fun k hk _ _=>hblk k hk,hown,fun k j hs=> .inl hs,fun t ht=> .inr ⟨ht,rfl⟩⟩,?_⟩
 ·show(h.b++[Blk.row T l]).length=C.nb+1
  rw[Za,hI.nb];rfl
 ·rw[YZ]at hib;split at hib
  ·next hi=>
   have hi':i<C.nb:=by rw[<-hI.nb];exact hi
   exact(hI.box i b hib).ext hE hi' (fun hl=>⟨hI.ok hib hl,fun k hk=>hblk k (hI.ownlt k _ hk).2.1,fun k=>hown' k _ (hI.lablt hib hl)⟩) hsz
  ·next hi=>
   have hk:i-h.b.length=0:=by
    rcases Nat.eq_zero_or_pos (i-h.b.length)with e|e
    ·exact e
    ·rw[Yh (by simp only[Zf,Zo];omega)]at hib;cases hib
   rw[hk]at hib;simp only[ZU,Zc]at hib;subst hib;have hi':i=C.nb:=by have:=hI.nb;omega
   refine⟨cs,rest,?_,RepL.ext hE l cs hl,by show _=(if i=C.nb then(cs++rest).length else C.kap i);rw[if_pos hi']⟩;show w'.heap[if i=C.nb then g else C.κ i]?=_
   rw[if_pos hi'];exact hh
 ·have hk':(if k=g then some C.nb else C.own k)=some i:=hk;split at hk'
  ·next e=>
   injection hk' with hk';exact⟨by show i<C.nb+1;omega,by rw[e];exact hglt,by rw[e];have:=hI.base;show C.base<=g;omega⟩
  ·obtain⟨k1,k2,k3⟩:=hI.ownlt k i hk';exact⟨by show i<C.nb+1;omega,by omega,k3⟩
 ·obtain⟨k1,k2,k3⟩:=hI.prot k j hs;exact⟨by omega,(hown k k1).trans k2,k3⟩
 ·obtain⟨k1,k2,cap,k3,k4⟩:=hI.rows t E W m ht;exact⟨(hown _ k3.lt).trans k1,k2,cap,k3.same (hblk _ k3.lt),k4⟩
 ·show C.base<=C'.w.heap.size
  have:=hI.base;omega
 ·exact hI.glob w2 fun k hk=>(hw2 k hk).trans (hblk k (ZG hk hI.base))
 ·refine⟨?_,by show h.b.length<C.nb+1;have:=hI.nb;omega,by show(if h.b.length=C.nb then(cs++rest).length else C.kap h.b.length)=_;rw[if_pos hI.nb]⟩;show(if h.b.length=C.nb then g else C.κ h.b.length)=_
  rw[if_pos hI.nb]
theorem dx7{t E:TypeId}{len:Nat}{parts:Array (Nat×Operand)}{it:TypeInfo}{z:Value}{ps:List Opd}{rows:List (List A)}(hI:Inv G C h)(hT:RepT C ts n a)(hop:o.op=.buildSlice t len parts)(ht:P.underlying t=some (.slice E))(hi:P.info? E=some it)(hz:it.zero=some z)
  (hzs:z.cells.size=it.size) (hpos:0<it.size) (hpl:parts.toList.length=len) (hl0:0<len) (hsm:len*it.size<=1000) (hc:compRow n 0 parts.toList=some ps) (hr:rowsR (evX ts) it.size ps=some rows):OpOk P G C a o (.bs h.b.length it.size rows.length) ⟨h.b++[.row E rows.flatten],h.t⟩:=by
 have hsl:((Array.range (len*it.size)).map (z.cells[· % z.cells.size]!)).toList.length=parts.toList.length*it.size:=by simp[hpl]
 obtain⟨out,k1,k2,k4,k5,k6⟩:=bj4 hT it.size hpos parts.toList ps rows 0 [] _ hc hr (by simp) hsl;have hlen:rows.length=len:=by rw[k5,hpl]
 simp only[Zq,Array.toArray_toList]at k1;obtain⟨C',m1,m2,m3,m4,m5,m6⟩:=ajd (w':=C.w.alloc (.cells out.toArray E)) (g:=C.w.heap.size) (T:=E) (rest:=[]) hI ((Below.refl _ _).alloc (Ze _) _) (Ze _) (by rw[Zz];exact Array.getElem?_push_size) k2;refine⟨C',.slice (some ⟨C.w.heap.size,0,none⟩) len len,.inl ?_,m2,m3,?_⟩
 ·rw[m1];have hrun:=run_buildSlice (P:=P) C.w t E len (parts.map fun p=>(p.1,a.eval p.2)) out.toArray it z ht hi hz (by omega) (by have:=Nat.mul_pos hl0 hpos;omega) (by rw[Array.toList_map];exact k1);unfold execOp;simp only[hop,Sem.run_bind];erw [hrun];rfl
 ·show ∃cap,_
  exact⟨len,by rw[m4,hlen],by omega,m5,by unfold maxLen;have:=Nat.le_mul_of_pos_right len hpos;omega,by rw[m6,Zz,k6,<-k5,hlen];exact Ze _⟩
theorem madeL(z:Array Value)(hz:0<z.size):∀m:Nat,(madeCells z (m*z.size)).toList=(List.replicate m z.toList).flatten
 |0=>by simp[madeCells]
 |m+1=>by
  rw[List.replicate_succ',List.flatten_append,<-madeL z hz m];apply List.ext_getElem
  ·simp[madeCells,Nat.succ_mul]
  intro j h1 h2;simp only[madeCells,Array.toList_map,Array.toList_range,List.getElem_map,List.getElem_range,List.getElem_append,Zh,List.length_range];split
  ·rfl
  ·next hj=>
   simp only[ZP,List.flatten_nil,Zz,Array.getElem_toList];have hl:j<m*z.size+z.size:=by
    simp[madeCells,Nat.succ_mul]at h1;exact h1
   have e:j%z.size=j-m*z.size:=by
    have:j=(j-m*z.size)+m*z.size:=by omega
    rw[this,Nat.add_mul_mod_self_right,YM (by omega)];omega
   rw[e];exact getElem!_pos z _ (by omega)
theorem madeT(z:Array Value)(hz:0<z.size){m n:Nat}(h:m<=n):(madeCells z (n*z.size)).toList=(List.replicate m z.toList).flatten++(List.replicate (n-m) z.toList).flatten:=by
 rw[madeL z hz,<-List.flatten_append,List.replicate_append_replicate,show m+(n-m)=n by omega]
theorem bx7{Z:List A}{zs:List Value}(hr:RepL C Z zs):∀m:Nat,RepL C (List.replicate m Z).flatten (List.replicate m zs).flatten
 |0=>azp.2 rfl
 |m+1=>by
  rw[List.replicate_succ,List.replicate_succ,ZP,ZP];exact azo hr (bx7 hr m)
theorem djd{t E:TypeId}{l c:Operand}{it:TypeInfo}{z:Value}{Z:List A}{k1 k2:IntKind}{m k:Int}(hI:Inv G C h)(hop:o.op=.makeSlice t l c)(ht:P.underlying t=some (.slice E))(hi:P.info? E=some it)(hz:it.zero=some z)
  (hzs:z.cells.size=it.size) (hpos:0<it.size) (hZ:convs z.cells.toList=some Z) (hl:a.eval l=.int k1 m) (hc:a.eval c=.int k2 k) (h0:0<=m) (hmk:m<=k) (hk:k<=1000000000000) (hb:k*(it.bytes:Int)<=140737488355328):OpOk P G C a o (.bs h.b.length it.size m.toNat) ⟨h.b++[.row E (zrows m Z)],h.t⟩:=by
 have hmt:=madeT z.cells (by omega) (show m.toNat<=k.toNat by omega);have hrep:RepL C (zrows m Z) (List.replicate m.toNat z.cells.toList).flatten:=by
  unfold zrows;split
  ·next e=>subst e;exact azp.2 rfl
  ·exact bx7 (ax4 hZ) _
 obtain⟨C',m1,m2,m3,m4,m5,m6⟩:=ajd (w':=C.w.alloc (.cells (madeCells z.cells (k.toNat*it.size)) E)) (g:=C.w.heap.size) (T:=E) (rest:=(List.replicate (k.toNat-m.toNat) z.cells.toList).flatten) hI ((Below.refl _ _).alloc (Ze _) _) (Ze _) (by
  rw[<-hmt,Array.toArray_toList,hzs];exact Array.getElem?_push_size) hrep
 refine⟨C',.slice (some ⟨C.w.heap.size,0,none⟩) m.toNat k.toNat,.inl ?_,m2,m3,?_⟩
 ·rw[m1];have hrun:=run_make (P:=P) C.w t E it z ht hi hz k1 k2 m k h0 hmk (by rw[Int.mul_comm];omega) (by omega);unfold execOp;simp only[hop,Sem.run_bind,hl,hc];erw [hrun];rfl
 ·show ∃cap,_
  refine⟨k.toNat,by rw[m4],by omega,m5,by unfold maxLen;omega,?_⟩;rw[m6,<-hmt,ZO,size_madeCells,hzs];exact Ze _
end
end AX
end
end Go.Proofs.YthhpocnmfknalaaGreatDoor
