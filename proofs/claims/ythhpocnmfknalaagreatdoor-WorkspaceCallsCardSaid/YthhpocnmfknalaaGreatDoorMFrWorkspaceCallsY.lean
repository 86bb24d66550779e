/- Part of what the proof needs. -/
import Derived.Test.YthhpocnmfknalaaGreatDoorMFrWorkspaceCallsX
set_option maxHeartbeats 4000000
set_option maxRecDepth 100000
set_option linter.all false
namespace Go.Proofs.YthhpocnmfknalaaGreatDoor
section
open Go.RowKit
structure Jr where
 kind:Int
 base:Sf.St
 step:Int
 op:Int
 addr:List UInt8
 dep:List UInt8
 typ:List UInt8
 tok:List UInt8
 err:Int
 after:Sf.Inst
namespace Jr
def shortB(l:List (List UInt8)):Bool:=l.all fun s=>decide ((s.length:Int)<=4096)
def zeroV:V->Bool
 |.mk k n s is ks=>k==0&&n==0&&s == []&&(is.length:Int)==0&&(ks.length:Int)==0
def noneB(x:Sf.Inst):Bool:=zeroV x.attrs&&x.addr == []&&x.dep == []&&x.id == []&&x.typ == []&&x.ver==0&&!x.tainted&&!x.first&&(x.deps.length:Int)==0
def emptyB(s:Sf.St):Bool:=s.lin == []&&s.ser==0&&(s.insts.length:Int)==0&&(s.pends.length:Int)==0&&(s.outs.length:Int)==0
def instB(x:Sf.Inst):Bool:=shortB [x.addr,x.dep,x.id,x.typ]&&shortB x.deps&&decide ((x.deps.length:Int)<=512)&&Val.checkZ x.attrs==0&&decide (x.ver>=0)&&decide (x.ver<=9007199254740992)
def stepB(r:Jr):Bool:=decide (r.step>=0)&&decide (r.step<2048)&&decide (r.op>=1)&&decide (r.op<=4)&&shortB [r.addr,r.dep,r.typ]
def bareB(r:Jr):Bool:=r.step==0&&r.op==0&&r.addr == []&&r.dep == []&&r.typ == []
def makesB(op:Int):Bool:=op==1||op==2
def afterB(r:Jr):Bool:=noneB r.after||makesB r.op&&instB r.after
def badB(r:Jr):Bool:=r.kind !=1&&!emptyB r.base||r.kind !=2&&r.tok != []||r.kind !=4&&r.err !=0
def validB(r:Jr):Bool:=
 if badB r=true then false
 else if r.kind=1\/r.kind=5 then bareB r&&noneB r.after
 else if r.kind=2 then stepB r&&noneB r.after&&shortB [r.tok]&&(r.op==1||r.tok == [])
 else if r.kind=3 then stepB r&&afterB r
 else if r.kind=4 then stepB r&&afterB r&&decide (r.err>=1)&&decide (r.err<=42)
 else false
def cells(r:Jr):List AX.A:=
 [.int .i64 r.kind,.str r.base.lin,.int .i64 r.base.ser,.sl 13 .no (r.base.insts.map Sf.Inst.cells),.sl 3 .no (r.base.pends.map Sf.Pend.cells),.sl 7 .no (r.base.outs.map Sf.Outp.cells),.int .i64 r.step,.int .i64 r.op,.str r.addr,.str r.dep,.str r.typ,.str r.tok,.int .i64 r.err]++Sf.Inst.cells r.after
end Jr
def gfind{α:Type}(n:Int):List (Int×α)->Option α
 |[]=>none
 |(k,x)::l=>if n=k then some x else gfind n l
def gput{α:Type}(n:Int)(x:α):List (Int×α)->List (Int×α)
 |[]=>[(n,x)]
 |(k,y)::l=>if n=k then(n,x)::l else(k,y)::gput n x l
section
variable {α:Type} (f:α->AX.A) (n:Int)
end
structure Fo where
 n:Int
 ended:Bool
 ints:List (Int×Jr)
 ress:List (Int×Bool)
 c1:Nat
 c2:Nat
namespace Fo
def next(f:Fo)(r:Jr):Bool×Fo:=
 let f1:Fo:={ f with n:=IntKind.i64.wrap (f.n+1) }
 if(f.ended||!((f.n==0)==(r.kind==1)))=true then(false,f1)
 else if r.kind=2 then(!(gfind r.step f.ints).isSome,{ f1 with ints:=gput r.step r f.ints,c1:=if(gfind r.step f.ints).isSome=true then f.c1 else f.c1+1 })
 else if r.kind=3\/r.kind=4 then
  ((match gfind r.step f.ints with
   |some i=>!((gfind r.step f.ress).getD false)&&i.op==r.op&&i.addr==r.addr&&i.typ==r.typ
   |none=>false),{ f1 with ress:=gput r.step true f.ress,c2:=if(gfind r.step f.ress).isSome=true then f.c2 else f.c2+1 })
 else if r.kind=5 then((f.ints.length:Int)==(f.ress.length:Int),{ f1 with ended:=true })
 else(true,f1)
def check:Fo->List Jr->Int
 |_,[]=>0
 |f,r::l=>if(!r.validB||(r.kind==1&&Sf.checkZ r.base !=0))=true then 1 else if(f.next r).1=true then check (f.next r).2 l else 38
end Fo
namespace Jr
end Jr
end
section
open Go.RowKit
namespace AX
theorem dq5(l:List (List UInt8))(hl:l.length<=1000000000)(h:Hp):AT 65 [.sl 1 .no (strsA l),.sl 1 .no (strsA l)] h (.bool true):=by
 refine pcall ?_ rfl (by simp[A.pure,A.data]) h;refine fo ?_;have li:=azd l;refine aza li ?_;refine azg (fun m ts hh=>hh=⟨[],[]⟩/\∃i:Nat,m=l.length-i/\i<=l.length/\(ts 0=.sl 1 .no (strsA l)/\ts 1=.sl 1 .no (strsA l)/\ts 5=.int .i64 (i:Nat))) l.length ?_ ?_
 ·exact⟨rfl,0,rfl,ZB _,by(exact azv li)⟩
 rintro m ts hh ⟨rfl,i,rfl,hi,ht⟩;rcases Z0 i l.length with hlt|hge
 ·have hf:(strsA l).length=l.length/\(i:Int)<(l.length:Int)/\(0:Int)<=(i:Int)/\(strsA l).getD i []=[.str l[i]]/\IntKind.i64.wrap ((i:Int)+1)=((i+1:Nat):Int):=az6 (fun s:List UInt8=>[A.str s]) l i hlt (by omega);refine aza (ai ht hf) ?_;exact⟨_,by omega,rfl,i+1,rfl,by omega,by(exact azv (ai ht hf))⟩
 ·have hf:¬(i:Int)<(l.length:Int):=by omega
  refine aza (ai ht (ai li hf)) ?_;exact Fn rfl
theorem cq7(x:Sf.Inst)(hx:x.attrs.lens)(hd:x.deps.length<=1000000000)(h:Hp):AT 40 [.agg x.cells,.agg x.cells] h (.bool true):=by
 have c1:=bzy x.attrs x.attrs hx hx;rw[aw2]at c1;have c2:=dq5 x.deps hd;obtain⟨a1,a2,a3,a4,⟨k,nn,ss,is,ks⟩,v,tn,fi,ds⟩:=x;simp only[Sf.Inst.cells,ZE,Zq,V.A,V.cells]at *;refine pcall ?_ rfl (by simp[A.pure,A.data]) h;refine fo ?_;refine azj ti (ai c1 (ai c2 ti)) ?_;exact Fn rfl
structure EqIn(s:Sf.St):Prop where
 li:s.insts.length<=1000000000
 lp:s.pends.length<=1000000000
 lo:s.outs.length<=1000000000
 insts:∀x∈s.insts,x.attrs.lens/\x.deps.length<=1000000000
 outs:∀x∈s.outs,x.value.lens
theorem cqw(st:Sf.St)(hin:EqIn st)(h:Hp):AT 16 [st.A,st.A] h (.bool true):=by
 refine pcall ?_ rfl (by simp[A.pure,A.data,Sf.St.A]) h;refine fo ?_;have hli:=hin.li;have hlp:=hin.lp;have hlo:=hin.lo;have hci:=fun x (hx:x∈st.insts)=>cq7 x (hin.insts x hx).1 (hin.insts x hx).2
 have hco:=fun x (hx:x∈st.outs)=>bzy x.value x.value (hin.outs x hx) (hin.outs x hx)
 obtain⟨lin,ser,ins,ps,os⟩:=st;simp only[Sf.St.A];dsimp only at hli hlp hlo hci hco;have lm1:(ins.map Sf.Inst.cells).length=ins.length:=Zh _;have lm2:(ps.map Sf.Pend.cells).length=ps.length:=Zh _;have lm3:(os.map Sf.Outp.cells).length=os.length:=Zh _;refine azz (ai lm1 (ai lm2 lm3)) ti ?_;refine azg (fun m ts hh=>hh=⟨[.cells 42 [.str lin,.int .i64 ser,.sl 13 .no (ins.map Sf.Inst.cells),.sl 3 .no (ps.map Sf.Pend.cells),.sl 7 .no (os.map Sf.Outp.cells)],.cells 42 [.str lin,.int .i64 ser,.sl 13 .no (ins.map Sf.Inst.cells),.sl 3 .no (ps.map Sf.Pend.cells),.sl 7 .no (os.map Sf.Outp.cells)]],[]⟩/\∃(i:Nat),m=ins.length-i/\i<=ins.length/\(ts 2=.ptr 0 0/\ts 3=.ptr 1 0/\ts 5=.int .i64 (i:Nat))) ins.length ?_ ?_
 ·exact⟨rfl,0,rfl,ZB _,by(exact azv (ai lm1 (ai lm2 lm3)))⟩
 rintro m ts hh ⟨rfl,i,rfl,hi,ht⟩;rcases Z0 i ins.length with hlt|hge
 ·have hf:=az6 Sf.Inst.cells ins i hlt (by omega);have cx:=hci _ (Zl hlt);obtain⟨x,hx⟩:=Ex (ins[i]);rw[hx]at hf cx;obtain⟨a1,a2,a3,a4,⟨k,nn,ss,is,ks⟩,v,tn,fi,ds⟩:=x;simp only[Sf.Inst.cells,ZE,Zq]at hf cx;refine azz (ai ht hf) (ai cx ti) ?_;exact⟨_,by omega,rfl,i+1,rfl,by omega,by(exact azv (ai ht hf))⟩
 have hf:=aqk Sf.Inst.cells ins i hge;refine azz (ai ht hf) ti ?_;refine azg (fun m ts hh=>hh=⟨[.cells 42 [.str lin,.int .i64 ser,.sl 13 .no (ins.map Sf.Inst.cells),.sl 3 .no (ps.map Sf.Pend.cells),.sl 7 .no (os.map Sf.Outp.cells)],.cells 42 [.str lin,.int .i64 ser,.sl 13 .no (ins.map Sf.Inst.cells),.sl 3 .no (ps.map Sf.Pend.cells),.sl 7 .no (os.map Sf.Outp.cells)]],[]⟩/\∃(i:Nat),m=ps.length-i/\i<=ps.length/\(ts 2=.ptr 0 0/\ts 3=.ptr 1 0/\ts 6=.int .i64 (i:Nat))) ps.length ?_ ?_
 ·exact⟨rfl,0,rfl,ZB _,by(exact azv ht)⟩
 clear ht hf hi hge ts i;rintro m ts hh ⟨rfl,i,rfl,hi,ht⟩;rcases Z0 i ps.length with hlt|hge
 ·have hf:=az6 Sf.Pend.cells ps i hlt (by omega);obtain⟨x,hx⟩:=Ex (ps[i]);rw[hx]at hf;obtain⟨a1,a2,a3⟩:=x;simp only[Sf.Pend.cells]at hf;refine azz (ai ht hf) ti ?_;exact⟨_,by omega,rfl,i+1,rfl,by omega,by(exact azv (ai ht hf))⟩
 have hf:=aqk Sf.Pend.cells ps i hge;refine azz (ai ht hf) ti ?_;refine azg (fun m ts hh=>∃(i:Nat) (l:List Blk),m=os.length-i/\i<=os.length/\hh=⟨.cells 42 [.str lin,.int .i64 ser,.sl 13 .no (ins.map Sf.Inst.cells),.sl 3 .no (ps.map Sf.Pend.cells),.sl 7 .no (os.map Sf.Outp.cells)] :: .cells 42 [.str lin,.int .i64 ser,.sl 13 .no (ins.map Sf.Inst.cells),.sl 3 .no (ps.map Sf.Pend.cells),.sl 7 .no (os.map Sf.Outp.cells)]::l,[]⟩/\(ts 2=.ptr 0 0/\ts 3=.ptr 1 0/\ts 7=.int .i64 (i:Nat))) os.length ?_ ?_
 ·exact⟨0,[],rfl,ZB _,rfl,by(exact azv ht)⟩
 clear ht hf hi hge ts i;rintro m ts hh ⟨i,l,rfl,hi,rfl,ht⟩;rcases Z0 i os.length with hlt|hge;rotate_left
 ·have hf:=aqk Sf.Outp.cells os i hge;refine azz (ai ht hf) ti ?_;exact Fn rfl
 have hf:=az6 Sf.Outp.cells os i hlt (by omega);have cx:=hco _ (Zl hlt);rw[aw2]at cx;obtain⟨x,hx⟩:=Ex (os[i]);rw[hx]at hf cx;obtain⟨a1,⟨k,nn,ss,is,ks⟩,b1⟩:=x;simp only[Sf.Outp.cells,V.A,V.cells,ZE,Zq]at hf cx;refine azz (ai ht hf) (ai cx ti) ?_;refine cyp 10 (by decide +kernel) ?_ ?_;all_goals simp only[edgeA,swapA,aw8,swN,aR,aF,aL,aM,ZM,Yn,reduceIte,Nat.reduceEqDiff,Nat.reduceAdd]
 ·refine azz (ai ht hf) (ai cx ti) ?_;exact⟨_,by omega,i+1,_,rfl,by omega,rfl,by(exact azv (ai ht hf))⟩
 ·refine azz (ai ht hf) (ai cx ti) ?_;exact⟨_,by omega,i+1,_,rfl,by omega,rfl,by(exact azv (ai ht hf))⟩
end AX
end
section
open Go.RowKit
open Go.Op (bytesLess)
namespace AX
open Sto
end AX
end
section
open Go.RowKit
open Go.Op (bytesLess)
namespace AX
open Sto
def Spc.cells(s:Spc):List A:=[.str s.name,.str s.st.lin,.int .i64 s.st.ser,.sl 13 .no (s.st.insts.map Sf.Inst.cells),.sl 3 .no (s.st.pends.map Sf.Pend.cells),.sl 7 .no (s.st.outs.map Sf.Outp.cells),.bool s.held]
def optI:Option Nat->Int
 |none=>-1
 |some i=>((i:Nat):Int)
def findI(l:List Spc)(n:List UInt8):Int:=optI (findS l n 0)
theorem bw3:∀(l:List Spc) (n:List UInt8) (i j:Nat),findS l n i=some j->i<=j/\j<i+l.length
 |[],n,i,j,h=>by cases h
 |s::l,n,i,j,h=>by
  unfold findS at h;split at h
  ·injection h with h;rw[Zf];omega
  ·have:=bw3 l n (i+1) j h;rw[Zf];omega
theorem avs{l:List Spc}{n:List UInt8}(h:findS l n 0=none):findI l n=-1:=by unfold findI;rw[h];rfl
theorem avr{l:List Spc}{n:List UInt8}{i:Nat}(h:findS l n 0=some i):findI l n=(i:Nat)/\i<l.length:=by
 refine⟨by unfold findI;rw[h];rfl,?_⟩;have:=(bw3 l n 0 i h).2;omega
def RowsWk:List (List A)->List (List A)->Prop
 |[],[]=>True
 |x::l,y::m=>WkL x y/\RowsWk l m
 |_,_=>False
theorem bzh{C:Ctx}{W:Nat}{a:Option Addr}:∀{l m:List (List A)} {k:Nat},RowsWk l m->RepRows C W l a k->RepRows C W m a k
 |[],[],_,_,_=>by unfold RepRows;trivial
 |x::l,y::m,k,h,r=>by
  unfold RepRows at r⊢;obtain⟨⟨g,off,e,hl,ra⟩,r2⟩:=r;exact⟨⟨g,off,e,by rw[h.1.len,hl],aks h.1 ra⟩,bzh h.2 r2⟩
 |[],_::_,_,h,_=>h.elim
 |_::_,[],_,h,_=>h.elim
theorem WkL.refl:∀l:List A,WkL l l
 |[]=>trivial
 |x::l=>⟨.inl rfl,WkL.refl l⟩
theorem RowsWk.refl:∀l:List (List A),RowsWk l l
 |[]=>trivial
 |x::l=>⟨WkL.refl x,RowsWk.refl l⟩
theorem RowsWk.app:∀{a a' b b':List (List A)},RowsWk a a'->RowsWk b b'->RowsWk (a++b) (a'++b')
 |[],[],_,_,_,k=>k
 |x::l,y::m,_,_,h,k=>⟨h.1,RowsWk.app h.2 k⟩
 |[],_::_,_,_,h,_=>h.elim
 |_::_,[],_,_,h,_=>h.elim
theorem RowsWk.len:∀{a a':List (List A)},RowsWk a a'->a'.length=a.length
 |[],[],_=>rfl
 |x::l,y::m,h=>by rw[Zf,Zf,RowsWk.len h.2]
 |[],_::_,h=>h.elim
 |_::_,[],h=>h.elim
theorem by8{C:Ctx}{W:Nat}{l m:List (List A)}{v:Value}(h:RowsWk l m)(r:Rep C (.sl W .no l) v):Rep C (.sl W .no m) v:=by
 obtain⟨a,cap,rfl,hc,rr,_⟩:=rep_sl.1 r;rw[<-h.len];exact rep_sl.2 ⟨a,cap,rfl,by rw[h.len];exact hc,bzh h rr,trivial⟩
theorem bvu{C:Ctx}{W:Nat}{l m:List (List A)}{x:A}{v:Value}(h:RowsWk l m)(r:Rep C (.tup [.sl W .no l,x]) v):Rep C (.tup [.sl W .no m,x]) v:=by
 obtain⟨cs,rfl,rl⟩:=rep_tup.1 r;obtain⟨c0,cs0,rfl,r0,rl⟩:=repL_cons.1 rl;exact rep_tup.2 ⟨_,rfl,repL_cons.2 ⟨_,_,rfl,by8 h r0,rl⟩⟩
theorem Gs.apps{E:TypeId}{W:Nat}{t:List (TypeId×Nat×Nat)}{W1:Nat}{o1:Own}{rows:List (List A)}(hg:Gs E W 0 ⟨[],t⟩ rows (.sl W1 o1 rows))(bytes:Nat)(ys:List (List A))(hn:rows.length+ys.length<=1000000)(hb:bytes<=1000):
  ∃W' o' t',(∀b,appA ⟨b,t⟩ E W bytes (.sl W1 o1 rows) (.sl W .no ys)=some (.sl W' o' (rows++ys),⟨b,t'⟩))/\Gs E W 0 ⟨[],t'⟩ (rows++ys) (.sl W' o' (rows++ys)):=by
 have hm:(1000000:Nat)<=maxLen:=by decide
 have b1:(rows.length+ys.length)*bytes<=140737488355328:=Zr (Nat.mul_le_mul hn hb) (by decide);have b2:ys.length*bytes<=140737488355328:=Zr (Ym _ (Nat.le_add_left _ _)) b1;rcases Nat.eq_zero_or_pos ys.length with h0|h0
 ·obtain rfl:=YL.1 h0;rw[Zz];refine⟨W1,o1,t,fun b=>?_,hg⟩;rcases hg with⟨rfl,e⟩|⟨k,_,e,_⟩<;>injection e with e1 e2 e3<;>subst e1<;>subst e2<;>simp[appA]
 ·rcases hg with⟨rfl,e⟩|⟨k,_,e,ht⟩
  ·injection e with e1 e2 e3;subst e1;subst e2;refine⟨W,.tok t.length,t++[(E,W,ys.length)],fun b=>?_,.inr ⟨t.length,ZB _,rfl,by simp⟩⟩;exact if_pos ⟨rfl,h0,by omega,b2⟩
  ·injection e with e1 e2 e3;subst e1;subst e2;refine⟨W1,.tok k,t.set k (E,W1,rows.length+ys.length),fun b=>?_,.inr ⟨k,ZB _,rfl,?_⟩⟩
   ·exact if_pos ⟨rfl,rfl,h0,ht,by omega,b1⟩
   ·show(t.set k _)[k]?=_
    rw[Zm,if_pos rfl,if_pos (Zb.1 ht).1,Za]
def SlW(W:Nat)(rows:List (List A))(x:A):Prop:=∃w o,x=.sl w o rows/\(w=W\/rows=[])/\(o=.no\/o=.nil)
theorem SlW.le{W:Nat}{rows:List (List A)}{w:Nat}{o:Own}(h:w=W\/rows=[]):le1 (.sl w o rows) (.sl W .no rows):=⟨rfl,h,.inl rfl⟩
theorem ava:∀(xs a b:List A) (k:Nat),k+xs.length<=a.length->setCells (a++b) k xs=setCells a k xs++b
 |[],a,b,k,_=>rfl
 |x::xs,a,b,k,h=>by
  rw[Zf]at h;rw[setCells,setCells,List.set_append_left _ _ (by omega),ava xs (a.set k x) b (k+1) (by rw[ZA];omega)]
theorem aju:∀(xs a b:List A) (k:Nat),setCells (a++b) (a.length+k) xs=a++setCells b k xs
 |[],a,b,k=>rfl
 |x::xs,a,b,k=>by
  rw[setCells,setCells,List.set_append_right _ _ (by omega),show a.length+k-a.length=k by omega,Nat.add_assoc,aju xs a (b.set k x) (k+1)]
theorem Spc.len(s:Spc):s.cells.length=7:=rfl
theorem Spc.data(s:Spc):s.cells.all A.data=true:=rfl
theorem cxe:∀(l:List Spc) (i:Nat) (h:i<l.length) (s':Spc) (k:Nat) (xs:List A),k+xs.length<=7->setCells l[i].cells k xs=s'.cells->setCells (l.map Spc.cells).flatten (i*7+k) xs=((l.set i s').map Spc.cells).flatten
 |s::l,0,h,s',k,xs,hk,hs=>by
  rw[ZM,ZP,show 0*7+k=k by omega,ava _ _ _ _ (by rw[Spc.len];exact hk)];have hs:setCells s.cells k xs=s'.cells:=hs;rw[hs];rfl
 |s::l,i+1,h,s',k,xs,hk,hs=>by
  rw[ZM,ZP,show(i+1)*7+k=s.cells.length+(i*7+k) by rw[Spc.len];omega,aju,cxe l i (by simpa using h) s' k xs hk (by simpa using hs)];rfl
theorem bjh(l:List Spc):(l.map Spc.cells).flatten.length=l.length*7/\(l.map Spc.cells).flatten.all A.data=true/\∀r∈l.map Spc.cells,r.length=7:=by
 have hw:∀r∈l.map Spc.cells,r.length=7:=fun r hr=>by obtain⟨x,_,rfl⟩:=ZW.1 hr;rfl
 refine⟨by rw[aqw hw,Zh],?_,hw⟩;rw[ZD];intro x hx;obtain⟨r,hr,hx⟩:=List.mem_flatten.1 hx;obtain⟨y,_,rfl⟩:=ZW.1 hr;exact ZD.1 (Spc.data y) x hx
theorem cw7{W:Nat}{rows:List (List A)}{j:Nat}(h:j<=rows.length):sslA W none (some (.int .i64 ((j:Nat):Int))) (.sl W .no rows)=some (.sl W .no (rows.take j)):=by
 unfold sslA;show(if _ then _ else _)=_
 rw[if_pos ⟨Int.le_refl 0,by omega,by omega,.inl rfl⟩];simp
theorem cw3{W:Nat}{rows:List (List A)}{j:Nat}(h:j<=rows.length):sslA W (some (.int .i64 ((j:Nat):Int))) none (.sl W .no rows)=some (.sl W .no (rows.drop j)):=by
 unfold sslA;show(if _ then _ else _)=_
 rw[if_pos ⟨by omega,by simp;omega,by simp,.inl rfl⟩];simp
end AX
end
section
open Go.RowKit
open Go.Op (bytesLess)
namespace AX
def akz:AX.AFn:=⟨20,aS [aR 4 (.mv (aI 0))] (.seq (aS [aR 5 (.mv (aI 0))] (.block 0 (.loop (.seq (aS [aM 6 5,aM 7 0,aR 8 (.len false (.t 7)),aR 9 (.bin .lss (.t 6) (.t 8))] (.cond (.t 9) (.skip) (.exit 0))) (.seq (.block 1 (aS [aM 12 0,aM 13 5,aR 14 (.iaddr 7 (.t 12) (.t 13)),aF 15 0 14,aL 16 15,aM 17 1,aR 18 (.bin .eql (.t 16) (.t 17))] (.cond (.t 18) (aS [aM 19 5,aM 4 19] (.ret)) (.skip)))) (.reg false [aM 10 5,aR 11 (.bin .add (.t 10) (aI 1)),aM 5 11])))))) (aS [aR 4 (.mv (aI (-1)))] (.ret))),[.t 4]⟩
theorem cxx:AX.compFn Tryz.prog 74=some akz:=by kernel_rfl
def aye:AX.AFn:=⟨20,aS [aR 4 (.mv (aI 0))] (.seq (aS [aR 5 (.mv (aI 0))] (.block 0 (.loop (.seq (aS [aM 6 5,aM 7 0,aR 8 (.len false (.t 7)),aR 9 (.bin .lss (.t 6) (.t 8))] (.cond (.t 9) (.skip) (.exit 0))) (.seq (.block 1 (aS [aM 12 0,aM 13 5,aR 14 (.iaddr 7 (.t 12) (.t 13)),aF 15 0 14,aL 16 15,aM 17 1,aR 18 (.bin .eql (.t 16) (.t 17))] (.cond (.t 18) (aS [aM 19 5,aM 4 19] (.ret)) (.skip)))) (.reg false [aM 10 5,aR 11 (.bin .add (.t 10) (aI 1)),aM 5 11])))))) (aS [aR 4 (.mv (aI (-1)))] (.ret))),[.t 4]⟩
theorem cj1:AX.compFn Tryz.prog 47=some aye:=by kernel_rfl
def avy:AX.AFn:=⟨20,aS [aR 2 (.mv (.c (.sl 0 .nil [])))] (aS [aR 3 (.mv (.c (.sl 0 .nil [])))] (.seq (aS [aR 4 (.mv (aI 0))] (.block 0 (.loop (.seq (aS [aM 5 4,aM 6 0,aR 7 (.len false (.t 6)),aR 8 (.bin .lss (.t 5) (.t 7))] (.cond (.t 8) (.skip) (.exit 0))) (.seq (.block 1 (.reg false [aM 11 3,aM 12 0,aM 13 4,aR 14 (.iaddr 7 (.t 12) (.t 13)),aF 15 0 14,aL 16 15,aR 17 (.mks 1 [.t 16]),aR 18 (.app 9 1 16 (.t 11) (.t 17)),aM 3 18])) (.reg false [aM 9 4,aR 10 (.bin .add (.t 9) (aI 1)),aM 4 10])))))) (aS [aM 19 3,aM 2 19] (.ret)))),[.t 2]⟩
theorem byh:AX.compFn Tryz.prog 22=some avy:=by kernel_rfl
theorem bjr(l:List Spc)(n:List UInt8)(hl:l.length<=900000)(h:Hp):AT 74 [.sl 7 .no (l.map Spc.cells),.str n] h (.int .i64 (findI l n)):=by
 refine pcall ?_ rfl (by simp[A.pure,A.data]) h;refine azf mixedT cxx (by simp[akz]) ?_;dsimp only[akz];have lm:(l.map Spc.cells).length=l.length:=Zh _;obtain⟨q,hq⟩:=Ex (findS l n 0);unfold findI;rw[hq];refine azj lm ti ?_;refine azg (fun m ts hh=>hh=⟨[],[]⟩/\∃j:Nat,m=l.length-j/\j<=l.length/\findS (l.drop j) n j=q/\(ts 0=.sl 7 .no (l.map Spc.cells)/\ts 1=.str n/\ts 5=.int .i64 (j:Nat))) l.length ?_ ?_
 ·exact⟨rfl,0,rfl,ZB _,hq,by(exact azv ti)⟩
 rintro m ts hh ⟨rfl,j,rfl,hj,hd,ht⟩;rcases Z0 j l.length with hlt|hge
 ·have hf:=az6 Spc.cells l j hlt (by omega);rw[Zu hlt]at hd;obtain⟨x,hx⟩:=Ex (l[j]);rw[hx]at hf hd;obtain⟨nm,st,he⟩:=x;have hd:(if nm=n then some j else findS (l.drop (j+1)) n (j+1))=q:=hd;dsimp only[Spc.cells]at hf;by_cases hn:nm=n
  ·rw[if_pos hn]at hd;subst hd;have e1:(nm==n)=true:=by simp[hn]
   refine azj (ai ht (ai hf e1)) ti ?_;exact Fn rfl
  ·rw[if_neg hn]at hd;have e1:(nm==n)=false:=by simp[hn]
   refine azj (ai ht (ai hf e1)) ti ?_;exact⟨_,by omega,rfl,j+1,rfl,by omega,hd,by(exact azv (ai ht hf))⟩
 ·have hf:=aqk Spc.cells l j hge;rw[YS hge]at hd;have hd:none=q:=hd;subst hd;refine azj (ai ht hf) ti ?_;exact Fn rfl
def rowN(n:List UInt8):List A:=[.str n,.str n,.int .i64 0,.sl 0 .nil [],.sl 0 .nil [],.sl 0 .nil [],.bool false]
theorem dxa(n:List UInt8):WkL (rowN n) (Spc.cells ⟨n,st0 n,false⟩):=⟨.inl rfl,.inl rfl,.inl rfl,.inr ⟨0,13,rfl,rfl⟩,.inr ⟨0,3,rfl,rfl⟩,.inr ⟨0,7,rfl,rfl⟩,.inl rfl,trivial⟩
theorem cyg:∀(l:List Spc) (n:List UInt8),atS l n<=l.length
 |[],n=>Ze _
 |s::l,n=>by
  unfold atS;split
  ·have:=cyg l n;rw[Zf];omega
  ·exact ZB _
theorem bkq(l:List Spc)(n:List UInt8)(hl:l.length<=900000)(hn:n.length<=2000000)(h:Hp):AT 45 [.sl 7 .no (l.map Spc.cells),.str n] h (.tup [.sl 7 .no ((spCreate l n).1.map Spc.cells),.int .i64 (spCreate l n).2]):=by
 have ci:=bxk n hn;have cf:=bjr l n hl;have lm:(l.map Spc.cells).length=l.length:=Zh _;unfold spCreate;cases hi:Adr.ident n with
 |false=>
  rw[if_pos rfl];rw[hi]at ci;refine pcall ?_ rfl (by simp[A.pure,A.data]) h;refine fo ?_;refine azj lm (ai ci ti) ?_;exact Fn rfl
 |true=>
 rw[if_neg (by decide)];rw[hi]at ci;cases hq:findS l n 0 with
 |some i=>
  obtain⟨f1,f2⟩:=avr hq;rw[f1]at cf;rw[if_pos (show(some i).isSome=true from rfl)];have g:((i:Nat):Int)>=0:=by omega
  refine pcall ?_ rfl (by simp[A.pure,A.data]) h;refine fo ?_;refine azj (ai lm g) (ai ci (ai cf ti)) ?_;exact Fn rfl
 |none=>
 rw[if_neg (by decide)];rw[avs hq]at cf;have gm:¬(-1:Int)>=0:=by decide
 by_cases h32:32<=l.length
 ·rw[if_pos h32];have g:(l.length:Int)>=32:=by omega
  refine pcall ?_ rfl (by simp[A.pure,A.data]) h;refine fo ?_;refine azj (ai lm (ai g gm)) (ai ci (ai cf ti)) ?_;exact Fn rfl
 rw[if_neg h32];have g:¬(l.length:Int)>=32:=by omega
 have hw:RowsWk ((l.map Spc.cells).take (atS l n)++[rowN n]++(l.map Spc.cells).drop (atS l n)) ((l.take (atS l n)++[(⟨n,st0 n,false⟩:Spc)]++l.drop (atS l n)).map Spc.cells):=by
  rw[Z6,Z6,List.map_take,List.map_drop];exact((RowsWk.refl _).app (show RowsWk [rowN n] [Spc.cells ⟨n,st0 n,false⟩]from⟨dxa n,trivial⟩)).app (RowsWk.refl _)
 refine ACall.wk (x:=.tup [.sl 7 .no ((l.map Spc.cells).take (atS l n)++[rowN n]++(l.map Spc.cells).drop (atS l n)),.int .i64 0]) ?_ fun C cv r=>bvu hw r
 clear hw;have hat:=cyg l n;obtain⟨p,hp⟩:=Ex (atS l n);rw[hp]at hat⊢;unfold rowN;refine pcall ?_ rfl (by simp[A.pure,A.data]) h;refine fo ?_;refine azj (ai lm (ai g gm)) (ai ci (ai cf ti)) ?_;refine azg (fun m ts hh=>hh=⟨[],[]⟩/\∃j:Nat,m=l.length-j/\j<=l.length/\j+atS (l.drop j) n=p/\(ts 0=.sl 7 .no (l.map Spc.cells)/\ts 1=.str n/\ts 6=.int .i64 (j:Nat))) l.length ?_ ?_
 ·exact⟨rfl,0,rfl,ZB _,by rw[<-hp];simp,by(exact azv ti)⟩
 rintro m ts hh ⟨rfl,j,rfl,hj,hd,ht⟩;by_cases hgo:∃h:j<l.length,bytesLess l[j].name n=true
 ·obtain⟨hlt,hb⟩:=hgo;have hf:=az6 Spc.cells l j hlt (by omega);rw[Zu hlt]at hd;obtain⟨x,hx⟩:=Ex (l[j]);rw[hx]at hf hd hb;unfold atS at hd;rw[if_pos hb]at hd;obtain⟨nm,st,he⟩:=x;dsimp only[Spc.cells]at hf hb;refine azj (ai ht (ai hf hb)) ti ?_;exact⟨_,by omega,rfl,j+1,rfl,by omega,by omega,by(exact azv (ai ht hf))⟩
 obtain rfl:j=p:=by
  rcases Z0 j l.length with hlt|hge
  ·rw[Zu hlt]at hd;unfold atS at hd;rw[if_neg (fun hb=>hgo ⟨hlt,hb⟩)]at hd;omega
  ·rw[YS hge]at hd;exact hd
 have hcond:(∃h:j<l.length,bytesLess l[j].name n=false)\/l.length<=j:=by
  rcases Z0 j l.length with hlt|hge
  ·exact .inl ⟨hlt,YR.2 fun hb=>hgo ⟨hlt,hb⟩⟩
  ·exact .inr hge
 have hlj:(l.map Spc.cells).length=l.length:=Zh _;obtain⟨RS,hRS⟩:=Ex (l.map Spc.cells);have lt1:(RS.take j).length=j:=by rw[Zk,<-hRS,hlj];omega
 have lt2:(RS.drop j).length=l.length-j:=by rw[ZC,<-hRS,hlj]
 obtain⟨W1,o1,t1,hX1,g1⟩:=Gs.apps (E:=64) (W:=7) (t:=[]) (W1:=0) (o1:=.nil) (rows:=[]) (.inl ⟨rfl,rfl⟩) 120 (RS.take j) (by rw[lt1];simp only[Zo];omega) (by decide);obtain⟨W2,o2,t2,hX2,g2⟩:=g1.apps 120 [[.str n,.str n,.int .i64 0,.sl 0 .nil [],.sl 0 .nil [],.sl 0 .nil [],.bool false]] (by rw[Zq,lt1];simp only[Zf,Zo];omega) (by decide);obtain⟨W3,o3,t3,hX3,g3⟩:=g2.apps 120 (RS.drop j) (by rw[Za,Zq,lt1,lt2];simp only[Zf,Zo];omega) (by decide);rw[Zq]at hX1 hX2 hX3 g3;have hl2:le (tupA [.sl W3 o3 (RS.take j++[[.str n,.str n,.int .i64 0,.sl 0 .nil [],.sl 0 .nil [],.sl 0 .nil [],.bool false]]++RS.drop j),.int .i64 0]) (.tup [.sl 7 .no (RS.take j++[[.str n,.str n,.int .i64 0,.sl 0 .nil [],.sl 0 .nil [],.sl 0 .nil [],.bool false]]++RS.drop j),.int .i64 0]):=⟨g3.le,az3 _,trivial⟩;clear g1 g2 g3;rw[hRS]at hlj ht;have z1:=cw7 (W:=7) (rows:=RS) (j:=j) (by rw[hlj];exact hat);have z2:=cw3 (W:=7) (rows:=RS) (j:=j) (by rw[hlj];exact hat);rcases hcond with⟨hlt,hb⟩|hge
 ·have hf:=az6 Spc.cells l j hlt (by omega);rw[hRS]at hf;obtain⟨x,hx⟩:=Ex (l[j]);rw[hx]at hf hb;obtain⟨nm,st,he⟩:=x;dsimp only[Spc.cells]at hf hb;refine azj (ai ht (ai hf (ai hb (ai hX1 (ai hX2 (ai hX3 (ai z1 (ai z2 hlj)))))))) ti ?_;exact⟨_,hl2,by rw[hRS]⟩
 ·have hf:=aqk Spc.cells l j hge;rw[hRS]at hf;refine azj (ai ht (ai hf (ai hX1 (ai hX2 (ai hX3 (ai z1 (ai z2 hlj))))))) ti ?_;exact⟨_,hl2,by rw[hRS]⟩
theorem bkn(l:List Spc)(n:List UInt8)(hl:l.length<=900000)(hs:∀s∈l,s.st.insts.length<=1000000/\s.st.pends.length<=1000000)(h:Hp):AT 46 [.sl 7 .no (l.map Spc.cells),.str n] h (.tup [.sl 7 .no ((spDelete l n).1.map Spc.cells),.int .i64 (spDelete l n).2]):=by
 have cf:=bjr l n hl;have lm:(l.map Spc.cells).length=l.length:=Zh _;unfold spDelete;cases hq:findS l n 0 with
 |none=>
  rw[avs hq]at cf;dsimp only;refine pcall ?_ rfl (by simp[A.pure,A.data]) h;refine fo ?_;refine azj lm (ai cf ti) ?_;exact Fn rfl
 |some i=>
 obtain⟨f1,hlt⟩:=avr hq;rw[f1]at cf;have hf:=az6 Spc.cells l i hlt (by omega);have hsi:=hs _ (Zl hlt);dsimp only;rw[Zj hlt];dsimp only;obtain⟨x,hx⟩:=Ex (l[i]);rw[hx]at hf hsi⊢;clear hx;obtain⟨nm,⟨lin,ser,ins,ps,os⟩,he⟩:=x;dsimp only[Spc.cells]at hf hsi⊢;have hg:¬((i:Nat):Int)<0:=by omega
 have li:(ins.map Sf.Inst.cells).length=ins.length:=Zh _;have lp:(ps.map Sf.Pend.cells).length=ps.length:=Zh _;cases he with
 |true=>
  rw[if_pos rfl];refine pcall ?_ rfl (by simp[A.pure,A.data]) h;refine fo ?_;refine azj (ai lm (ai hf hg)) (ai cf ti) ?_;exact Fn rfl
 |false=>
 rw[if_neg (by decide)];by_cases h1:0<ins.length
 ·rw[if_pos (.inl h1)];have e1:(ins.length:Int)>0:=by omega
  refine pcall ?_ rfl (by simp[A.pure,A.data]) h;refine fo ?_;refine azj (ai lm (ai hf (ai hg (ai li (ai lp e1))))) (ai cf ti) ?_;exact Fn rfl
 have e1:¬(ins.length:Int)>0:=by omega
 by_cases h2:0<ps.length
 ·rw[if_pos (.inr h2)];have e2:(ps.length:Int)>0:=by omega
  refine pcall ?_ rfl (by simp[A.pure,A.data]) h;refine fo ?_;refine azj (ai lm (ai hf (ai hg (ai li (ai lp (ai e1 e2)))))) (ai cf ti) ?_;exact Fn rfl
 have e2:¬(ps.length:Int)>0:=by omega
 rw[if_neg (by omega)];rw[Z6,List.map_take,List.map_drop];obtain⟨RS,hRS⟩:=Ex (l.map Spc.cells);rw[hRS]at hf lm cf⊢;have lt1:(RS.take i).length=i:=by rw[Zk,lm];omega
 have lt2:(RS.drop (i+1)).length=l.length-(i+1):=by rw[ZC,lm]
 obtain⟨W1,o1,t1,hX1,g1⟩:=Gs.apps (E:=64) (W:=7) (t:=[]) (W1:=0) (o1:=.nil) (rows:=[]) (.inl ⟨rfl,rfl⟩) 120 (RS.take i) (by rw[lt1];simp only[Zo];omega) (by decide);obtain⟨W3,o3,t3,hX3,g3⟩:=g1.apps 120 (RS.drop (i+1)) (by rw[Zq,lt1,lt2];omega) (by decide);rw[Zq]at hX1 hX3 g3;have hl2:le (tupA [.sl W3 o3 (RS.take i++RS.drop (i+1)),.int .i64 0]) (.tup [.sl 7 .no (RS.take i++RS.drop (i+1)),.int .i64 0]):=⟨g3.le,az3 _,trivial⟩;clear g1 g3;have z1:=cw7 (W:=7) (rows:=RS) (j:=i) (by rw[lm];omega);have z2:=cw3 (W:=7) (rows:=RS) (j:=i+1) (by rw[lm];omega);refine pcall ?_ rfl (by simp[A.pure,A.data]) h;refine fo ?_;refine azj (ai lm (ai hf (ai hg (ai li (ai lp (ai e1 (ai e2 (ai hX1 (ai hX3 (ai z1 z2)))))))))) (ai cf ti) ?_;exact⟨_,hl2,rfl⟩
theorem czt(l:List Spc)(hl:l.length<=900000)(h:Hp):AT 22 [.sl 7 .no (l.map Spc.cells)] h (.sl 1 .no (strsA (l.map (·.name)))):=by
 have lm:(l.map Spc.cells).length=l.length:=Zh _;refine pcall ?_ rfl (by simp[A.pure,A.data]) h;refine azf mixedT byh (by simp[avy]) ?_;dsimp only[avy];refine azj lm ti ?_;refine azg (fun mm ts h=>∃(j:Nat) (W:Nat) (o:Own) (tt:List (TypeId×Nat×Nat)),mm=l.length-j/\j<=l.length/\Gs 9 1 0 ⟨[],tt⟩ (strsA ((l.take j).map (·.name))) (.sl W o (strsA ((l.take j).map (·.name))))/\h=⟨[],tt⟩/\(ts 0=.sl 7 .no (l.map Spc.cells)/\ts 3=.sl W o (strsA ((l.take j).map (·.name)))/\ts 4=.int .i64 (j:Nat))) l.length ?_ ?_
 ·exact⟨0,0,.nil,[],rfl,ZB _,.inl ⟨rfl,rfl⟩,rfl,by(exact azv lm)⟩
 rintro mm ts h ⟨j,W,o,tt,rfl,hj,gX,rfl,ht⟩;rcases Z0 j l.length with hlt|hge
 ·have hf:=az6 Spc.cells l j hlt (by omega);have es:l.take (j+1)=l.take j++[l[j]]:=(List.take_append_getElem hlt).symm;obtain⟨W1,o1,t1,hX1,g1⟩:=gX.apps 16 [[.str l[j].name]] (by unfold strsA;rw[Zh,Zh,Zk];simp only[Zf,Zo];omega) (by decide);have em:strsA ((l.take j).map (·.name))++[[.str l[j].name]]=strsA ((l.take (j+1)).map (·.name)):=by rw[es];unfold strsA;rw[Z6,Z6];rfl
  rw[em]at g1 hX1;obtain⟨N0,hN0⟩:=Ex (strsA ((l.take j).map (·.name)));obtain⟨N1,hN1⟩:=Ex (strsA ((l.take (j+1)).map (·.name)));rw[hN0]at hX1 ht;rw[hN1]at hX1 g1;obtain⟨x,hx⟩:=Ex (l[j]);rw[hx]at hf hX1;clear hx em es gX;obtain⟨nm,st,he⟩:=x;dsimp only[Spc.cells]at hf hX1;refine azj (ai ht (ai hf hX1)) ti ?_;exact⟨_,by omega,j+1,W1,o1,t1,rfl,by omega,by rw[hN1];exact g1,rfl,by rw[hN1];(exact azv (ai ht hf))⟩
 ·have hf:=aqk Spc.cells l j hge;rw[Zy hge]at gX ht;have hle:=gX.le;refine azj (ai ht hf) ti ?_;refine⟨_,?_,rfl⟩;rw[azk];exact hle
theorem cwu(is:List V)(ks:List (List UInt8))(key:List UInt8)(x:V)(hik:is.length=ks.length)(hl:∀s∈ks,bytesLess s key=true)(hn:ks.length<=100000)(h:Hp):
  AT 48 [.agg [.int .i64 5,.int .i64 0,.str [],.sl 5 .no (V.cellss is),.sl 1 .no (strsA ks)],.str key,x.A] h (.agg [.int .i64 5,.int .i64 0,.str [],.sl 5 .no (V.cellss (is++[x])),.sl 1 .no (strsA (ks++[key]))]):=by
 have e1:V.cellss (is++[x])=is.map V.cells++[x.cells]:=by rw[V.cellss_map,Z6];rfl
 have e2:strsA (ks++[key])=strsA ks++[[.str key]]:=by unfold strsA;rw[Z6];rfl
 rw[e1,e2,V.cellss_map];have lI:(is.map V.cells).length=ks.length:=by rw[Zh,hik]
 have lK:=azd ks;obtain⟨xk,xn,xs,xi,xy⟩:=x;simp only[V.A,V.cells]at *;refine pcall ?_ rfl (by simp[A.pure,A.data]) h;refine fo ?_;(refine AX.azj (AX.ai lI lK) AX.ti ?_)
 refine azg (fun mm ts h => ∃ (j : Nat) (tt : List (TypeId × Nat × Nat)) (W1 : Nat) (o1 : Own) (W2 : Nat) (o2 : Own), mm = ks.length - j /\ j <= ks.length /\
    Gs 51 5 0 ⟨[], tt⟩ ((is.take j).map V.cells) (.sl W1 o1 ((is.take j).map V.cells)) /\ Gs 9 1 0 ⟨[], tt⟩ (strsA (ks.take j)) (.sl W2 o2 (strsA (ks.take j))) /\
    h = ⟨[.cells 51 [.int .i64 5, .int .i64 0, .str [], .sl 5 .no (is.map V.cells), .sl 1 .no (strsA ks)], .cells 51 [.int .i64 xk, .int .i64 xn, .str xs, .sl 5 .no (V.cellss xi), .sl 1 .no (strsA xy)], .cells 51 [.int .i64 0, .int .i64 0, .str [], .sl 0 .nil [], .sl 0 .nil []], .cells 51 [.int .i64 5, .int .i64 0, .str [], .sl W1 o1 ((is.take j).map V.cells), .sl W2 o2 (strsA (ks.take j))]], tt⟩ /\ (ts 1 = .str key /\ ts 3 = .ptr 0 0 /\ ts 5 = .ptr 1 0 /\ ts 6 = .ptr 2 0 /\ ts 7 = .ptr 3 0 /\ ts 8 = .bool false /\ ts 9 = .int .i64 (j : Nat))) ks.length ?_ ?_
 ·exact⟨0,[],0,.nil,0,.nil,rfl,ZB _,.inl ⟨rfl,rfl⟩,.inl ⟨rfl,rfl⟩,rfl,by(exact azv (ai lI lK))⟩
 rintro mm ts h ⟨j,tt,W1,o1,W2,o2,rfl,hj,gI,gK,rfl,ht⟩;rcases Z0 j ks.length with hlt|hge
 ·have hlt2:j<is.length:=by omega
  have hf:=az6 V.cells is j hlt2 (by omega);have hk:(0:Int)<=(j:Int)/\(j:Int)<(ks.length:Int)/\(strsA ks).getD j []=[.str ks[j]]:=by
   have:=az6 (fun s:List UInt8=>[A.str s]) ks j hlt (by omega);exact⟨this.2.2.1,this.2.1,this.2.2.2.1⟩
  have hb:=hl _ (Zl hlt);have es1:(is.take j).map V.cells++[is[j].cells]=(is.take (j+1)).map V.cells:=by rw[<-List.take_append_getElem hlt2,Z6];rfl
  have es2:strsA (ks.take j)++[[.str ks[j]]]=strsA (ks.take (j+1)):=by rw[<-List.take_append_getElem hlt];unfold strsA;rw[Z6];rfl
  obtain⟨W3,o3,t3,hX3,g3,k3⟩:=gK.grow 16 [.str ks[j]] (by unfold strsA;rw[Zh,Zk];omega) (by decide);have gI:=k3 51 5 _ _ (by decide) gI;obtain⟨W4,o4,t4,hX4,g4,k4⟩:=gI.grow 80 is[j].cells (by rw[Zh,Zk];omega) (by decide);have g3:=k4 9 1 _ _ (by decide) g3;rw[es1]at hX4 g4;rw[es2]at hX3 g3;have hne:ks[j]≠key:=fun e=>by rw[e,Val.less_irrefl]at hb;cases hb
  have hf:(0:Int)<=(j:Int)/\(is.map V.cells).getD j []=is[j].cells/\IntKind.i64.wrap ((j:Int)+1)=((j+1:Nat):Int):=⟨hf.2.2.1,hf.2.2.2.1,hf.2.2.2.2⟩;obtain⟨I0,hI0⟩:=Ex ((is.take j).map V.cells);obtain⟨K0,hK0⟩:=Ex (strsA (ks.take j));obtain⟨I1,hI1⟩:=Ex ((is.take (j+1)).map V.cells);obtain⟨K1,hK1⟩:=Ex (strsA (ks.take (j+1)));rw[hI0,hI1]at hX4;rw[hK0,hK1]at hX3;rw[hI0,hK0];rw[hI1]at g4;rw[hK1]at g3;obtain⟨y,hy⟩:=Ex (is[j]);obtain⟨kj,hkj⟩:=Ex (ks[j]);rw[hy]at hf hX4;rw[hkj]at hk hb hne hX3;clear es1 es2 hy hkj gI gK k3 k4;obtain⟨a1,a2,a3,a4,a5⟩:=y;simp only[V.cells]at hf hX4;have e3:(kj !=key)=true:=by simp[hne]
  refine azj (ai ht (ai hf (ai hk (ai lI (ai lK (ai hb (ai e3 (ai hX3 hX4)))))))) ti ?_;exact⟨_,by omega,j+1,t4,W4,o4,W3,o3,rfl,by omega,by rw[hI1];exact g4,by rw[hK1];exact g3,by rw[hI1,hK1],by(exact azv (ai ht hf))⟩
 ·have hk:¬(j:Int)<(ks.length:Int):=by omega
  obtain⟨W3,o3,t3,hX3,g3,k3⟩:=gK.grow 16 [.str key] (by unfold strsA;rw[Zh,Zk];omega) (by decide);have gI:=k3 51 5 _ _ (by decide) gI;obtain⟨W4,o4,t4,hX4,g4,k4⟩:=gI.grow 80 [.int .i64 xk,.int .i64 xn,.str xs,.sl 5 .no (V.cellss xi),.sl 1 .no (strsA xy)] (by rw[Zh,Zk];omega) (by decide);have hle1:=g3.le;have hle2:=g4.le;rw[Zy hge]at hX3 hle1;rw[Zy (by omega)]at hX4 hle2;rw[Zy hge,Zy (by omega)];clear g3 g4 gI gK k3 k4;refine azj (ai ht (ai hk (ai lI (ai lK (ai hX3 hX4))))) ti ?_;refine⟨.agg [.int .i64 5,.int .i64 0,.str [],.sl 5 .no (is.map V.cells++[[.int .i64 xk,.int .i64 xn,.str xs,.sl 5 .no (V.cellss xi),.sl 1 .no (strsA xy)]]),.sl 1 .no (strsA ks++[[.str key]])],?_,rfl⟩;rw[azk];exact⟨aze _,aze _,aze _,hle2,hle1,trivial⟩
theorem bvb(is:List V)(ks:List (List UInt8))(key:List UInt8)(x:V)(hik:is.length=ks.length)(hl:∀s∈ks,bytesLess s key=true)(hn:ks.length<=100000)(h:Hp):
  AT 48 [.agg [.int .i64 5,.int .i64 0,.str [],mapI is,mapK ks],.str key,x.A] h (.agg [.int .i64 5,.int .i64 0,.str [],mapI (is++[x]),mapK (ks++[key])]):=by
 have e1:mapI (is++[x])=.sl 5 .no (V.cellss (is++[x])):=if_neg (by simp);have e2:mapK (ks++[key])=.sl 1 .no (strsA (ks++[key])):=if_neg (by simp);rw[e1,e2];exact ACall.args (as':=[.agg [.int .i64 5,.int .i64 0,.str [],.sl 5 .no (V.cellss is),.sl 1 .no (strsA ks)],.str key,x.A]) ⟨awb is ks,az3 _,az3 _,trivial⟩ (cwu is ks key x hik hl hn h)
theorem cjz(st:Sf.St)(ok:OutsOk st.outs)(h:Hp):AT 49 [st.A] h ((outsV st.outs).A):=by
 obtain⟨lin,ser,ins,ps,os⟩:=st;dsimp only at ok⊢;have hVA:(outsV os).A=.agg [.int .i64 5,.int .i64 0,.str [],.sl 5 .no (V.cellss (os.map (·.value))),.sl 1 .no (strsA (os.map (·.name)))]:=by simp only[outsV,V.A,V.cells]
 rw[hVA];simp only[Sf.St.A];refine pcall ?_ rfl (by simp[A.pure,A.data]) h;have lo:(os.map Sf.Outp.cells).length=os.length:=Zh _;have hlen:=ok.len;refine fo ?_;refine azj lo ti ?_
 refine azg (fun m ts hh=>∃(j:Nat),m=os.length-j/\j<=os.length/\hh=⟨[.cells 42 [.str lin,.int .i64 ser,.sl 13 .no (ins.map Sf.Inst.cells),.sl 3 .no (ps.map Sf.Pend.cells),.sl 7 .no (os.map Sf.Outp.cells)],.cells 51 [.int .i64 0,.int .i64 0,.str [],.sl 0 .nil [],.sl 0 .nil []],.cells 51 [.int .i64 5,.int .i64 0,.str [],mapI ((os.take j).map (·.value)),mapK ((os.take j).map (·.name))]],[]⟩ /\
  (ts 1=.ptr 0 0/\ts 2=.ptr 1 0/\ts 3=.ptr 2 0/\ts 4=.int .i64 (j:Nat))) os.length ?_ ?_
 ·exact⟨0,rfl,ZB _,rfl,by(exact azv lo)⟩
 rintro m ts hh ⟨j,rfl,hj,rfl,ht⟩;rcases Z0 j os.length with hlt|hge
 ·have hf:=az6 Sf.Outp.cells os j hlt (by omega);have et:os.take (j+1)=os.take j++[os[j]]:=(List.take_append_getElem hlt).symm
  have cp:=bvb ((os.take j).map (·.value)) ((os.take j).map (·.name)) os[j].name os[j].value (by rw[Zh,Zh]) (fun s hs=>by
   obtain⟨o,ho,rfl⟩:=ZW.1 hs;obtain⟨i,hi,rfl⟩:=List.mem_take_iff_getElem.1 ho
   exact List.pairwise_iff_getElem.1 ok.srt i j (by omega) hlt (by omega)) (by rw[Zh,Zk];omega)
  have ev:(os.take j).map (·.value)++[os[j].value]=(os.take (j+1)).map (·.value):=by rw[et,Z6];rfl
  have en:(os.take j).map (·.name)++[os[j].name]=(os.take (j+1)).map (·.name):=by rw[et,Z6];rfl
  rw[ev,en]at cp;clear et ev en;obtain⟨o,ho⟩:=Ex (os[j]);rw[ho]at hf cp;clear ho;have i1:=(axf ((os.take (j+1)).map (·.value))).1;have k1:=(axd ((os.take (j+1)).map (·.name))).1;obtain⟨I,hI⟩:=Ex (mapI ((os.take j).map (·.value)));obtain⟨K,hK⟩:=Ex (mapK ((os.take j).map (·.name)));obtain⟨I',hI'⟩:=Ex (mapI ((os.take (j+1)).map (·.value)));obtain⟨K',hK'⟩:=Ex (mapK ((os.take (j+1)).map (·.name)));rw[hI,hK,hI',hK']at cp;rw[hI']at i1;rw[hK']at k1;rw[hI,hK];simp only[A.one]at i1 k1;obtain⟨nm,v,sn⟩:=o;obtain⟨k,n,s,is,ks⟩:=v;simp only[Sf.Outp.cells,V.A,V.cells,ZE,Zq]at hf cp
  try dsimp only at cp
  refine azj (ai ht (ai hf (ai i1 k1))) (ai cp ti) ?_;exact⟨_,by omega,j+1,rfl,by omega,by rw[hI',hK'],by(exact azv (ai ht hf))⟩
 ·have hf:=aqk Sf.Outp.cells os j hge;rw[Zy hge];have i1:=(axf (os.map (·.value))).1;have k1:=(axd (os.map (·.name))).1;have hle:=awb (os.map (·.value)) (os.map (·.name));obtain⟨I,hI⟩:=Ex (mapI (os.map (·.value)));obtain⟨K,hK⟩:=Ex (mapK (os.map (·.name)));rw[hI,hK]at hle⊢;rw[hI]at i1;rw[hK]at k1;simp only[A.one]at i1 k1;refine azj (ai ht (ai hf (ai i1 k1))) ti ?_;refine⟨.agg [.int .i64 5,.int .i64 0,.str [],.sl 5 .no (V.cellss (os.map (·.value))),.sl 1 .no (strsA (os.map (·.name)))],?_,rfl⟩;rw[azk];exact hle
theorem bvw(W:List Ent)(ok:∀e∈W,OutsOk (stOf e).outs)(srt:SrtW W)(hl:W.length<=1000)(ex:List UInt8)(hlens:(remV W ex).lens)(h:Hp):
  AT 23 [.sl 7 .no ((absW W).map Spc.cells),.str ex] h (remA W ex):=by
 have cC:=bwj (remV W ex) hlens;have lm:((absW W).map Spc.cells).length=W.length:=by unfold absW;rw[Zh,Zh]
 have hrow:∀j (h:j<W.length),((absW W).map Spc.cells).getD j []=(absE W[j]).cells:=fun j h=>by unfold absW;rw[List.map_map,az0 _ _ j h];rfl
 obtain⟨RS,hRS⟩:=Ex ((absW W).map Spc.cells);rw[hRS]at lm hrow⊢;have vA:(remV W ex).A=.agg [.int .i64 5,.int .i64 0,.str [],.sl 5 .no (V.cellss (vlR (remL W ex))),.sl 1 .no (strsA (nmR (remL W ex)))]:=by simp only[remV,V.A,V.cells]
 have cC':∀h,AT 50 [.agg [.int .i64 5,.int .i64 0,.str [],mapI (vlR (remL W ex)),mapK (nmR (remL W ex))]] h (.int .i64 (Val.checkZ (remV W ex))):=fun h=>by
  rw[vA]at cC;exact ACall.args (as':=[.agg [.int .i64 5,.int .i64 0,.str [],.sl 5 .no (V.cellss (vlR (remL W ex))),.sl 1 .no (strsA (nmR (remL W ex)))]]) ⟨awb _ _,trivial⟩ (cC h)
 clear cC;unfold remA;rw[vA];have hle:=awb (vlR (remL W ex)) (nmR (remL W ex));have i1:=(axf (vlR (remL W ex))).1;have k1:=(axd (nmR (remL W ex))).1;obtain⟨Z,hZ⟩:=Ex (Val.checkZ (remV W ex));rw[hZ]at cC'⊢;clear vA hZ;refine pcall ?_ (by split<;>rfl) (by simp[A.pure,A.data]) h;refine fo ?_;refine azj lm ti ?_
 refine azg (fun m ts hh=>∃(j:Nat),m=W.length-j/\j<=W.length/\hh=⟨[.cells 51 [.int .i64 0,.int .i64 0,.str [],.sl 0 .nil [],.sl 0 .nil []],.cells 51 [.int .i64 5,.int .i64 0,.str [],mapI (vlR (remL (W.take j) ex)),mapK (nmR (remL (W.take j) ex))]],[]⟩ /\
  (ts 0=.sl 7 .no RS/\ts 1=.str ex/\ts 4=.ptr 0 0/\ts 6=.ptr 1 0/\ts 7=.int .i64 (j:Nat))) W.length ?_ ?_
 ·exact⟨0,rfl,ZB _,rfl,by(exact azv lm)⟩
 rintro m ts hh ⟨j,rfl,hj,rfl,ht⟩;rcases Z0 j W.length with hlt|hge;rotate_left
 ·have hf:¬(j:Int)<(W.length:Int):=by omega
  rw[Zy hge];obtain⟨I,hI⟩:=Ex (mapI (vlR (remL W ex)));obtain⟨K,hK⟩:=Ex (mapK (nmR (remL W ex)));rw[hI,hK]at hle cC'⊢;rw[hI]at i1;rw[hK]at k1;simp only[A.one]at i1 k1;by_cases hz:Z=0
  ·subst hz;rw[if_pos rfl];refine azj (ai ht (ai lm (ai hf (ai i1 k1)))) (ai cC' ti) ?_;exact⟨.tup [.agg [.int .i64 5,.int .i64 0,.str [],.sl 5 .no (V.cellss (vlR (remL W ex))),.sl 1 .no (strsA (nmR (remL W ex)))],.int .i64 0],⟨hle,az3 _,trivial⟩,rfl⟩
  ·have hzb:(Z !=0)=true:=by simp[hz]
   rw[if_neg hz];refine azj (ai ht (ai lm (ai hf (ai i1 (ai k1 hzb))))) (ai cC' ti) ?_;exact⟨.tup [(V.mk 0 0 [] [] []).A,.int .i64 Z],⟨⟨aze _,aze _,aze _,⟨rfl,.inr rfl,.inl rfl⟩,⟨rfl,.inr rfl,.inl rfl⟩,trivial⟩,az3 _,trivial⟩,rfl⟩
 have hf:(j:Int)<(W.length:Int)/\(0:Int)<=(j:Int)/\IntKind.i64.wrap ((j:Int)+1)=((j+1:Nat):Int):=⟨by omega,by omega,by rw[wrap64 (by omega) (by omega)];omega⟩;have hr:=hrow j hlt;have hem:=Zl hlt;have et:W.take (j+1)=W.take j++[W[j]]:=(List.take_append_getElem hlt).symm;have es:=bvd (W.take j) W[j] ex;rw[<-et]at es;have cO:=cjz (stOf W[j]) (ok _ hem)
 have cP:=bvb (vlR (remL (W.take j) ex)) (nmR (remL (W.take j) ex)) W[j].name (outsV (stOf W[j]).outs) (by unfold vlR nmR;rw[Zh,Zh]) (fun s hs=>by
  obtain⟨e,he,rfl⟩:=ZW.1 hs;obtain⟨i,hi,rfl⟩:=List.mem_take_iff_getElem.1 ((aqm _ _).mem he)
  exact(Sf.cmpZ_lt _ _).1 (List.pairwise_iff_getElem.1 srt i j (by omega) hlt (by omega))) (by
   have:=(aqm (W.take j) ex).length_le
   unfold nmR;rw[Zh];rw[Zk]at this;omega)
 have e1:vlR (remL (W.take j) ex)++[outsV (stOf W[j]).outs]=vlR (remL (W.take j) ex++[W[j]]):=by unfold vlR;rw[Z6];rfl
 have e2:nmR (remL (W.take j) ex)++[W[j].name]=nmR (remL (W.take j) ex++[W[j]]):=by unfold nmR;rw[Z6];rfl
 rw[e1,e2]at cP;clear e1 e2 hrow ok srt hem et;obtain⟨e,he⟩:=Ex (W[j]);rw[he]at hr es cP cO;clear he;unfold absE Spc.cells at hr;dsimp only at hr;cases hne:(e.name==ex)with
 |true=>
  have e1:(e.name !=ex)=false:=by unfold bne;rw[hne];rfl
  rw[hne,if_pos rfl]at es;refine azj (ai ht (ai lm (ai hf (ai hr e1)))) ti ?_;exact⟨_,by omega,j+1,rfl,by omega,by rw[es],by(exact azv (ai ht hf))⟩
 |false=>
  have e1:(e.name !=ex)=true:=by unfold bne;rw[hne];rfl
  rw[hne,if_neg (by decide)]at es;obtain⟨st,hst⟩:=Ex (stOf e);rw[hst]at hr cO cP;obtain⟨lin,ser,ins,ps,os⟩:=st;simp only[Sf.St.A]at cO;dsimp only at cO cP hr;have vO:(outsV os).A=.agg [.int .i64 5,.int .i64 0,.str [],.sl 5 .no (V.cellss (os.map (·.value))),.sl 1 .no (strsA (os.map (·.name)))]:=by simp only[outsV,V.A,V.cells]
  rw[vO]at cO cP;have i2:=(axf (vlR (remL (W.take j) ex++[e]))).1;have k2:=(axd (nmR (remL (W.take j) ex++[e]))).1;obtain⟨I,hI⟩:=Ex (mapI (vlR (remL (W.take j) ex)));obtain⟨K,hK⟩:=Ex (mapK (nmR (remL (W.take j) ex)));obtain⟨I',hI'⟩:=Ex (mapI (vlR (remL (W.take j) ex++[e])));obtain⟨K',hK'⟩:=Ex (mapK (nmR (remL (W.take j) ex++[e])));rw[hI,hK,hI',hK']at cP;rw[hI,hK];rw[hI']at i2;rw[hK']at k2;simp only[A.one]at i2 k2;refine azj (ai ht (ai lm (ai hf (ai hr e1)))) ti ?_;refine use (cO _) ?_ (hm:=⟨fun e=>absurd e (by decide),fun _=>bvp (ai ht (ai lm (ai hf hr)))⟩);refine azj (ai ht (ai lm (ai hf (ai hr e1)))) ti ?_;refine use (cP _) ?_ (hm:=⟨fun e=>absurd e (by decide),fun _=>bvp (ai ht (ai lm (ai hf hr)))⟩);refine azj (ai ht (ai lm (ai hf (ai hr (ai i2 k2))))) ti ?_;exact⟨_,by omega,j+1,rfl,by omega,by rw[es,hI',hK'],by(exact azv (ai ht hf))⟩
theorem cx3(l:List Spc)(n:List UInt8)(hl:l.length<=900000)(h:Hp):AT 47 [.sl 7 .no (l.map Spc.cells),.str n] h (.int .i64 (findI l n)):=by
 refine pcall ?_ rfl (by simp[A.pure,A.data]) h;refine azf mixedT cj1 (by simp[aye]) ?_;dsimp only[aye];have lm:(l.map Spc.cells).length=l.length:=Zh _;obtain⟨q,hq⟩:=Ex (findS l n 0);unfold findI;rw[hq];refine azj lm ti ?_;refine azg (fun m ts hh=>hh=⟨[],[]⟩/\∃j:Nat,m=l.length-j/\j<=l.length/\findS (l.drop j) n j=q/\(ts 0=.sl 7 .no (l.map Spc.cells)/\ts 1=.str n/\ts 5=.int .i64 (j:Nat))) l.length ?_ ?_
 ·exact⟨rfl,0,rfl,ZB _,hq,by(exact azv ti)⟩
 rintro m ts hh ⟨rfl,j,rfl,hj,hd,ht⟩;rcases Z0 j l.length with hlt|hge
 ·have hf:=az6 Spc.cells l j hlt (by omega);rw[Zu hlt]at hd;obtain⟨x,hx⟩:=Ex (l[j]);rw[hx]at hf hd;obtain⟨nm,st,he⟩:=x;have hd:(if nm=n then some j else findS (l.drop (j+1)) n (j+1))=q:=hd;dsimp only[Spc.cells]at hf;by_cases hn:nm=n
  ·rw[if_pos hn]at hd;subst hd;have e1:(nm==n)=true:=by simp[hn]
   refine azj (ai ht (ai hf e1)) ti ?_;exact Fn rfl
  ·rw[if_neg hn]at hd;have e1:(nm==n)=false:=by simp[hn]
   refine azj (ai ht (ai hf e1)) ti ?_;exact⟨_,by omega,rfl,j+1,rfl,by omega,hd,by(exact azv (ai ht hf))⟩
 ·have hf:=aqk Spc.cells l j hge;rw[YS hge]at hd;have hd:none=q:=hd;subst hd;refine azj (ai ht hf) ti ?_;exact Fn rfl
structure SpsIn(l:List Spc):Prop where
 len:l.length<=900000
 few:∀s∈l,s.st.insts.length<=1000000/\s.st.pends.length<=1000000/\-1000000<=s.st.ser/\s.st.ser<=1000000
theorem dqg(l:List Spc)(k:Int)(hk:0<=k)(n:List UInt8)(os:List Sf.Outp)(full:Bool)(hl:SpsIn l)(hn:n.length<=2000000)(h:Hp):
  AT 20 [.sl 7 .no (l.map Spc.cells),.agg (opA k n os full)] h (.tup [.sl 7 .no ((spDo l k n os full).1.map Spc.cells),.int .i64 (spDo l k n os full).2]):=by
 have cc:=bkq l n hl.len hn;have cd:=bkn l n hl.len fun s hs=>⟨(hl.few s hs).1,(hl.few s hs).2.1⟩
 have cf:=cx3 l n hl.len;have hlen:=hl.len;have lm:(l.map Spc.cells).length=l.length:=Zh _;unfold spDo opA;have cN:=fun st h1 h2=>bjw st os full h1 h2
 obtain⟨OS,hOS⟩:=Ex (os.map Sf.Outp.cells);rw[hOS];by_cases k0:k=0
 ·subst k0;rw[if_pos rfl];obtain⟨⟨cl,ce⟩,hc⟩:=Ex (spCreate l n);rw[hc]at cc⊢;refine pcall ?_ rfl (by simp[A.pure,A.data]) h;refine fo ?_;refine azj lm (ai cc ti) ?_;exact Fn rfl
 by_cases k1:k=1
 ·subst k1;rw[if_neg k0,if_pos rfl];obtain⟨⟨cl,ce⟩,hc⟩:=Ex (spDelete l n);rw[hc]at cd⊢;refine pcall ?_ rfl (by simp[A.pure,A.data]) h;refine fo ?_;refine azj lm (ai cd ti) ?_;exact Fn rfl
 rw[if_neg k0,if_neg k1];have b0:(k==0)=false:=by simp[k0]
 have b1:(k==1)=false:=by simp[k1]
 by_cases k4:4<k
 ·rw[if_pos k4];have b4:k>4:=k4;refine pcall ?_ rfl (by simp[A.pure,A.data]) h;refine fo ?_;refine azj (ai lm (ai b0 (ai b1 b4))) ti ?_;exact Fn rfl
 rw[if_neg k4];have b4:¬k>4:=k4;cases hq:findS l n 0 with
 |none=>
  rw[avs hq]at cf;refine pcall ?_ rfl (by simp[A.pure,A.data]) h;refine fo ?_;refine azj (ai lm (ai b0 (ai b1 b4))) (ai cf ti) ?_;exact Fn rfl
 |some i=>
 obtain⟨f1,hlt⟩:=avr hq;rw[f1]at cf;have hf:=az6 Spc.cells l i hlt (by omega);have hsi:=hl.few _ (Zl hlt);dsimp only;have hset:=cxe l i hlt;obtain⟨fl,fd,fw⟩:=bjh l;rw[Zj hlt];dsimp only;obtain⟨x,hx⟩:=Ex (l[i]);rw[hx]at hf hsi hset⊢;clear hx;obtain⟨nm,st,he⟩:=x;dsimp only at hsi⊢;have cN:=cN st hsi.2.2.1 hsi.2.2.2;have hg:¬((i:Nat):Int)<0:=by omega
 have hz:(0:Int)<=((i:Nat):Int)/\((i:Nat):Int)<(l.length:Int):=by omega
 have hap:appB ⟨[.cells 25 [.int .u8 k,.str n,.sl 7 .no OS,.bool full]],[]⟩ 64 7 120 (.sl 0 .nil []) (.sl 7 .no (l.map Spc.cells))=some (.bs 1 7 l.length,⟨[.cells 25 [.int .u8 k,.str n,.sl 7 .no OS,.bool full],.row 64 (l.map Spc.cells).flatten],[]⟩):=by
  have hm:(1000000:Nat)<=maxLen:=by decide
  have hmul:l.length*120<=140737488355328:=by omega
  simp only[appB,rowC,if_true,lm];rw[if_pos (by omega),if_pos ⟨by omega,hmul⟩];rfl
 have hle:i*7+7<=(l.map Spc.cells).flatten.length:=by rw[fl];omega
 obtain⟨RS,hRS⟩:=Ex (l.map Spc.cells);obtain⟨F,hF⟩:=Ex (RS.flatten);rw[hRS]at hf hap lm cf hset fl hle⊢;rw[hF]at hap hset fl hle;have fz:∀(s':Spc) (G:List A),G=((l.set i s').map Spc.cells).flatten->Fz1 ⟨[.cells 25 [.int .u8 k,.str n,.sl 7 .no OS,.bool full],.row 64 G],[]⟩ (.bs 1 7 l.length) (.sl 7 .no ((l.set i s').map Spc.cells)):=fun s' G hG=>by
  obtain⟨_,gd,gw⟩:=bjh (l.set i s');subst hG;exact .inr ⟨1,7,_,(l.set i s').map Spc.cells,by rw[Zh,ZA],rfl,rfl,gw,gd⟩
 clear fd fw;by_cases k3:k=3
 ·subst k3;have q0:((3:Int)==0)=false:=rfl;have q1:((3:Int)==1)=false:=rfl;have q4:¬(3:Int)>4:=by decide
  have q3:((3:Int)==3)=true:=rfl;have h3:=hset ⟨nm,st,true⟩ 6 [.bool true] (by decide) rfl;rw[if_pos rfl];simp only[setCells]at h3;refine pcallv ?_ (by simp[A.pure,A.data]) h;refine fo ?_;refine azj (ai lm (ai hf (ai hg (ai hz (ai hap (ai hle (ai q0 (ai q1 (ai q3 q4))))))))) (ai cf ti) ?_;exact⟨_,le_refl _,.tup ⟨fz _ _ h3,.inl ⟨rfl,rfl⟩,trivial⟩⟩
 rw[if_neg k3];have b3:(k==3)=false:=by simp[k3]
 by_cases k4:k=4
 ·subst k4;have q0:((4:Int)==0)=false:=rfl;have q1:((4:Int)==1)=false:=rfl;have q4:¬(4:Int)>4:=by decide
  have q3:((4:Int)==3)=false:=rfl;have q5:((4:Int)==4)=true:=rfl;rw[if_pos rfl];cases he with
  |false=>
   rw[if_pos rfl,<-hRS];rw[<-hRS]at hf hap lm cf;refine pcall ?_ rfl (by simp[A.pure,A.data]) h;refine fo ?_;obtain⟨lin,ser,ins,ps,os0⟩:=st;dsimp only[Spc.cells]at hf;refine azj (ai lm (ai hf (ai hg (ai hz (ai hap (ai hle (ai q0 (ai q1 (ai q3 (ai q4 q5)))))))))) (ai cf ti) ?_;exact Fn rfl
  |true=>
   have h3:=hset ⟨nm,st,false⟩ 6 [.bool false] (by decide) rfl;rw[if_neg (by decide)];simp only[setCells]at h3;refine pcallv ?_ (by simp[A.pure,A.data]) h;refine fo ?_;dsimp only[Spc.cells]at hf;refine azj (ai lm (ai hf (ai hg (ai hz (ai hap (ai hle (ai q0 (ai q1 (ai q3 (ai q4 q5)))))))))) (ai cf ti) ?_;exact⟨_,le_refl _,.tup ⟨fz _ _ h3,.inl ⟨rfl,rfl⟩,trivial⟩⟩
 rw[if_neg k4];have b4':(k==4)=false:=by simp[k4]
 obtain⟨st',hst'⟩:=Ex (nextS st os full);rw[hst',hOS]at cN;rw[hst'];have h3:=hset ⟨nm,st',he⟩ 1 [.str st'.lin,.int .i64 st'.ser,.sl 13 .no (st'.insts.map Sf.Inst.cells),.sl 3 .no (st'.pends.map Sf.Pend.cells),.sl 7 .no (st'.outs.map Sf.Outp.cells)] (by simp) rfl;simp only[setCells]at h3;obtain⟨lin,ser,ins,ps,os0⟩:=st;obtain⟨lin',ser',ins',ps',os'⟩:=st';simp only[Sf.St.A]at cN;dsimp only[Spc.cells]at hf;dsimp only at h3;refine pcallv ?_ (by simp[A.pure,A.data]) h;refine fo ?_;refine azj (ai lm (ai hf (ai hg (ai hz (ai hap (ai hle (ai b0 (ai b1 (ai b4 (ai b3 b4')))))))))) (ai cf ti) ?_;refine use (cN _) ?_ (hm:=⟨fun e=>absurd e (by decide),fun _=>bvp (ai lm (ai hf (ai hz hle)))⟩);have hle2:i*7+1+5<=F.length/\i*7+6<=F.length:=by omega
 refine azj (ai lm (ai hf (ai hg (ai hz (ai hle hle2))))) ti ?_;exact⟨_,le_refl _,.tup ⟨fz _ _ h3,.inl ⟨rfl,rfl⟩,trivial⟩⟩
theorem byc(l:List (List UInt8))(hl:l.length<=1000000000)(h:Hp):AT 21 [.sl 1 .no (strsA l),.sl 1 .no (strsA l)] h (.bool true):=by
 refine pcall ?_ rfl (by simp[A.pure,A.data]) h;refine fo ?_;have li:=azd l;refine azj li ti ?_;refine azg (fun m ts hh=>hh=⟨[],[]⟩/\∃i:Nat,m=l.length-i/\i<=l.length/\(ts 0=.sl 1 .no (strsA l)/\ts 1=.sl 1 .no (strsA l)/\ts 5=.int .i64 (i:Nat))) l.length ?_ ?_
 ·exact⟨rfl,0,rfl,ZB _,by(exact azv li)⟩
 rintro m ts hh ⟨rfl,i,rfl,hi,ht⟩;rcases Z0 i l.length with hlt|hge
 ·have hf:(strsA l).length=l.length/\(i:Int)<(l.length:Int)/\(0:Int)<=(i:Int)/\(strsA l).getD i []=[.str l[i]]/\IntKind.i64.wrap ((i:Int)+1)=((i+1:Nat):Int):=az6 (fun s:List UInt8=>[A.str s]) l i hlt (by omega);obtain⟨x,hx⟩:=Ex (l[i]);rw[hx]at hf;have e1:(x !=x)=false:=by simp
  refine azj (ai ht (ai hf e1)) ti ?_;exact⟨_,by omega,rfl,i+1,rfl,by omega,by(exact azv (ai ht hf))⟩
 ·have hf:¬(i:Int)<(l.length:Int):=by omega
  refine azj (ai ht (ai li hf)) ti ?_;exact Fn rfl
end AX
end
section
open Go.RowKit
open Go.Op (bytesLess)
namespace AX
open Sto
end AX
end
section
open Go.RowKit
open Go.Op (bytesLess)
namespace AX
open Sto
theorem cq3{os:List Sf.Outp}(v:OutsV os){o:Sf.Outp}(h:o∈os):o.value.lens:=Val.chk_lens _ _ _ (v.one h).2.1
end AX
end
section
open Go.RowKit
open Go.Op (bytesLess)
namespace AX
open Sto
theorem EInv.eqIn{J:Nat}{e:Ent}(v:EInv J e):EqIn (stOf e):=by
 have l5:=v.os.len;refine⟨?_,?_,by omega,fun x hx=>?_,fun x hx=>cq3 v.os hx⟩
 ·rcases v.ins with h|h<;>rw[h]<;>decide
 ·rw[v.pn];decide
 ·rcases v.ins with h|h<;>rw[h]at hx
  ·cases hx
  ·rw[ZJ.1 hx];exact⟨by unfold aj2 V.lens V.lensS;simp,by decide⟩
theorem dqv{W:List Ent}{J:Nat}(hi:∀e∈W,EInv J e)(hJ:J<=50)(hl:W.length<=1000):SpsIn (absW W):=by
 refine⟨by unfold absW;rw[Zh];omega,fun s hs=>?_⟩;obtain⟨e,he,rfl⟩:=ZW.1 hs;have f:=(hi e he).few hJ;show(stOf e).insts.length<=1000000/\(stOf e).pends.length<=1000000/\-1000000<=(stOf e).ser/\(stOf e).ser<=1000000
 omega
theorem cyo{W:List Ent}{J:Nat}(hi:∀e∈W,EInv J e)(hl:W.length<=1000)(ex:List UInt8):∃(X:V) (Z:Int),remA W ex=.tup [X.A,.int .i64 Z]/\X.lens:=by
 unfold remA;split
 ·exact⟨_,_,rfl,aw3 hi hl ex⟩
 ·exact⟨_,_,rfl,by unfold V.lens V.lensS;simp⟩
theorem cqv(key except:List UInt8)(l:List Op51)(ho:∀x∈l,∀o∈x.outs,o.value.lens)(hkd:∀x∈l,0<=x.kind):
  AC 6 [.str key,.sl 4 .no (l.map Op51.cells),.str except] ⟨[],[]⟩ fun r _=>r=.bool true:=by
 have aw:=dzt;have cf:=dzp key l ho;refine fo ?_;cases hf:bxq key l with
 |false=>
  rw[hf]at cf;refine azj ti (ai cf (ai aw ti)) ?_;exact Fn rfl
 |true=>
 rw[hf]at cf;obtain⟨hl20,hkey,hok⟩:=ck9 hf hkd;by_cases hex:(except.length:Int)>100
 ·refine azj hex (ai cf (ai aw ti)) ?_;exact Fn rfl
 refine go0 hex ?_;refine gc0 hex ?_;refine(cf _).mono ?_;rintro v h' ⟨rfl,rfl⟩;refine go0 hex ?_;refine gc0 hex ?_;refine(bk1 hkey _).mono ?_;rintro v ⟨B,T⟩ ⟨i,rfl,rfl,-,-,w⟩;refine go0 ti ?_
 refine azg (fun mm ts hh=>∃(j:Nat) (W:List Ent) (b:List Blk) (T:List (TypeId×Nat×Nat)) (x:Nat) (o:Own),mm=l.length-j/\j<=l.length/\hh=⟨b,T⟩/\Live b i key W j/\(x=7\/(absW W).map Spc.cells=[]) /\
  (ts 1=.sl 4 .no (l.map Op51.cells)/\ts 2=.str except/\ts 7=.ptr i 0/\ts 9=.sl x o ((absW W).map Spc.cells)/\ts 10=.int .i64 (j:Nat))) l.length ?_ ?_
 ·exact⟨0,[],B,[],0,.nil,rfl,ZB _,rfl,⟨⟨_,w⟩,fun x hx=>by cases hx⟩,.inr rfl,by(exact azv ti)⟩
 clear w;rintro mm ts hh ⟨j,W,b,T,xw,xo,rfl,hj,rfl,lv,hxw,ht⟩;have hwl:W.length<=1000:=by obtain⟨sp,w⟩:=lv.at';exact w.len
 rcases Z0 j l.length with hlt|hge
 ·have hf:=bkb Op51.cells l j hlt (by omega);have hx:=hok _ (Zl hlt);obtain⟨x,hx'⟩:=Ex (l[j]);rw[hx']at hf hx;have cs:=dxl (h:=⟨b,T⟩) hkey lv (by omega) x hx;have cD:∀h,AT 20 [.sl xw xo ((absW W).map Spc.cells),.agg (opA x.kind x.name x.outs x.full)] h (.tup [.sl 7 .no ((spDo (absW W) x.kind x.name x.outs x.full).1.map Spc.cells),.int .i64 (spDo (absW W) x.kind x.name x.outs x.full).2]):=fun h=>
   ACall.args (as':=[.sl 7 .no ((absW W).map Spc.cells),.agg (opA x.kind x.name x.outs x.full)]) ⟨SlW.le hxw,az3 _,trivial⟩ (dqg (absW W) x.kind hx.kind x.name x.outs x.full (dqv lv.inv (by omega) hwl) (by have:=hx.name;omega) h)
  have spec:=fun b' W' er (s:StepW b b' i key W W' j x er)=>s.spec hkey lv (by omega) hx
  obtain⟨kd,nm,os,fu⟩:=x;dsimp only[Op51.cells,opA]at hf cs cD spec;refine go0 (ai ht hf) ?_;refine gc0 (ai ht hf) ?_;refine cs.mono ?_;rintro v ⟨b',T'⟩ ⟨rfl,W',er,rfl,s⟩;have sp':=spec _ _ _ s;rw[sp']at cD;have lv':=s.live;obtain⟨spp,w⟩:=lv'.at';have c6:=bqr (h:=⟨b',T'⟩) w;have c7:=czt (absW W') (by unfold absW;rw[Zh];have:=w.len;omega);have en:(absW W').map (·.name)=W'.map (·.name):=by unfold absW;rw[List.map_map];rfl
  rw[en]at c7;have c8:=byc (W'.map (·.name)) (by rw[Zh];have:=w.len;omega);clear s cs sp' spec en;have e1:(er !=er)=false:=by simp
  obtain⟨NN,hNN⟩:=Ex (strsA (W'.map (·.name)));rw[hNN]at c6 c7 c8;clear hNN;refine go0 (ai ht hf) ?_;refine gc0 (ai ht hf) ?_;refine(cD _).mono ?_;rintro v h' ⟨rfl,rfl⟩;refine go0 (ai ht (ai hf e1)) ?_;refine gc0 (ai ht (ai hf e1)) ?_;refine c6.mono ?_;rintro v h' ⟨rfl,L6,T6,rfl⟩;have lv2:=lv'.more L6;obtain⟨B6,hB6⟩:=Ex (b'++L6);dsimp only;simp only[hB6]at lv2⊢;refine go0 (ai ht hf) ?_;refine gc0 (ai ht hf) ?_;refine(c7 _).mono ?_;rintro v h' ⟨rfl,rfl⟩;refine go0 (ai ht hf) ?_;refine gc0 (ai ht hf) ?_;refine(c8 _).mono ?_;rintro v h' ⟨rfl,rfl⟩;refine go0 (ai ht hf) ?_;exact⟨_,by omega,j+1,W',B6,T6,7,.no,rfl,by omega,rfl,lv2,.inl rfl,by(exact azv (ai ht hf))⟩
 have hf:=bq0 Op51.cells l j hge;obtain⟨sp,w⟩:=lv.at';have hi:=lv.inv;have lm:((absW W).map Spc.cells).length=W.length:=by unfold absW;rw[Zh,Zh]
 have hrow:∀j (h:j<W.length),((absW W).map Spc.cells).getD j []=(absE W[j]).cells:=fun j h=>by unfold absW;rw[List.map_map,az0 _ _ j h];rfl
 have hcR:=bvw W (fun e he=>(hi e he).os.ok) w.srt w.len except (aw3 hi hwl except);have c5':=fun b sp (w:WsAt b i key sp W)=>bx1 (h:=⟨b,T⟩) w lv.ok except (aw3 hi hwl except)
 obtain⟨X,Z,hX,hXl⟩:=cyo hi hwl except;have cE:=bzy X X hXl hXl;rw[aw2]at cE;rw[hX]at hcR c5';obtain⟨k0,n0,s0,is0,ks0⟩:=X;simp only[V.A,V.cells]at hcR c5' cE;obtain⟨RS,hRS⟩:=Ex ((absW W).map Spc.cells);rw[hRS]at lm hrow hxw ht hcR;have cR:∀h,AT 23 [.sl xw xo RS,.str except] h (.tup [.agg [.int .i64 k0,.int .i64 n0,.str s0,.sl 5 .no (V.cellss is0),.sl 1 .no (strsA ks0)],.int .i64 Z]):=fun h=>
  ACall.args (as':=[.sl 7 .no RS,.str except]) ⟨SlW.le hxw,az3 _,trivial⟩ (hcR h)
 clear hRS hX hcR cf hXl;have z0:(0:Int)=((0:Nat):Int):=rfl;refine go0 (ai ht hf) ?_
 refine azg (fun mm ts hh=>∃(u:Nat) (sp:A) (b:List Blk),mm=W.length-u/\u<=W.length/\hh=⟨b,T⟩/\WsAt b i key sp W /\
  (ts 2=.str except/\ts 7=.ptr i 0/\ts 9=.sl xw xo RS/\ts 14=.int .i64 (u:Nat))) W.length ?_ ?_
 ·exact⟨0,sp,b,rfl,ZB _,rfl,w,by(exact azv ht)⟩
 clear ht w ts;rintro mm ts hh ⟨u,sp,b,rfl,hu,rfl,w,ht⟩;rcases Z0 u W.length with hlt|hge2;rotate_left
 ·have hf2:¬(u:Int)<(W.length:Int):=by omega
  have c5:=c5' _ _ w;have eZ:(Z==Z)=true:=by simp
  refine go0 (ai ht (ai lm hf2)) ?_;refine gc0 (ai ht (ai lm hf2)) ?_;refine c5.mono ?_;rintro v h' ⟨rfl,L,rfl⟩;obtain⟨b1,hb1⟩:=Ex (b++L)
  try dsimp only
  simp only[hb1];refine go0 ht ?_;refine gc0 ht ?_;refine(cR _).mono ?_;rintro v h' ⟨rfl,rfl⟩;refine go0 (ai ht eZ) ?_;refine gc0 (ai ht eZ) ?_;refine(cE _).mono ?_;rintro v h' ⟨rfl,rfl⟩;refine go0 (ai ht eZ) ?_;refine gc0 (ai ht eZ) ?_;refine(aw _).mono ?_;rintro v h' ⟨rfl,rfl⟩;refine go0 (ai ht eZ) ?_;exact Fn rfl
 obtain rfl:xw=7:=hxw.resolve_right fun e=>by rw[e]at lm;simp at lm;omega
 have hf2:(u:Int)<(W.length:Int)/\(0:Int)<=(u:Int)/\IntKind.i64.wrap ((u:Int)+1)=((u+1:Nat):Int):=⟨by omega,by omega,by rw[wrap64 (by omega) (by omega)];omega⟩;have hr:=hrow u hlt;have hem:=Zl hlt;obtain⟨e,hee⟩:=Ex (W[u]);rw[hee]at hr hem;obtain⟨q,hc⟩:=bka e.name W w.srt;obtain⟨_,hh,hp⟩:=dzj w.srt hem hc;have c4:=aj9 (h:=⟨b,T⟩) w e.name q hc;rw[hh,if_pos rfl,hp]at c4;have ve:=hi e hem;have ok:=ve.ok;have cQ:=cqw (stOf e) ve.eqIn;have hrd:=ok.rd;obtain⟨st,hst⟩:=Ex (stOf e);unfold absE Spc.cells at hr;dsimp only at hr;rw[hst]at hr hrd cQ;obtain⟨lin,ser,ins,ps,os⟩:=st;simp only[Sf.St.A]at cQ;dsimp only at hr;refine go0 (ai ht (ai lm (ai hf2 hr))) ?_;refine gc0 (ai ht (ai lm (ai hf2 hr))) ?_;refine c4.mono ?_;rintro v h' ⟨rfl,L4,rfl⟩;have w:=w.more L4;obtain⟨b1,hb1⟩:=Ex (b++L4);dsimp only at w⊢;simp only[hb1]at w⊢;have c3:=bws (h:=⟨b1,T⟩) (w.st hem) ok.kl ok.hb;rw[hrd]at c3;simp only[Sf.St.A]at c3;clear c4;refine go0 ht ?_;refine gc0 ht ?_;refine c3.mono ?_;rintro v h' ⟨rfl,rfl⟩;have w:=w.more [.cells 42 [.str lin,.int .i64 ser,.sl 13 .no (ins.map Sf.Inst.cells),.sl 3 .no (ps.map Sf.Pend.cells),.sl 7 .no (os.map Sf.Outp.cells)]];refine go0 ht ?_;refine azj (ai ht (ai lm (ai hf2 hr))) (ai cQ ti) ?_;exact⟨_,by omega,u+1,sp,_,rfl,by omega,rfl,w,by(exact azv (ai ht hf2))⟩
end AX
end
section
open Go.RowKit Go.ChangeShapes Go.WideShapes Go.Deep
mutual
def D.bulk:D->Nat
 |.int ..=>1
 |.str l=>l.length+1
 |.bool _=>1
 |.agg l=>D.bulks l+1
 |.sl _ l=>D.bulks l+1
def D.bulks:List D->Nat
 |[]=>0
 |d::l=>d.bulk+D.bulks l
end
theorem bk6{H:Type}:∀(l:List D) (xs:List (DataW H)),l.length=xs.length->(∀i (hi:i<l.length) (hj:i<xs.length),l[i].bulk<=Rows.uptoBulk xs[i])->D.bulks l<=Rows.uptoBulkAll xs
 |[],[],_,_=>by rw[D.bulks];exact ZB _
 |[],_::_,h,_=>by simp at h
 |_::_,[],h,_=>by simp at h
 |d::l,x::xs,h,hb=>by
  rw[D.bulks,Rows.uptoBulkAll];exact Nat.add_le_add (hb 0 (by simp) (by simp)) (bk6 l xs (by simpa using h) fun i hi hj=>hb (i+1) (Nat.succ_lt_succ hi) (Nat.succ_lt_succ hj))
section
variable {H:Type} {enc:TypeId×Value->H} {P:Program} {w:World} {base:Nat} {spare:Nat->Bool} {held:Bool} {K:List TypeId}
theorem akh{n:Nat}(ih:∀t,t∈K->∀cs x,DataW.trod enc P w base spare held n t cs=some x->∃d,Rd w (Old w) d cs/\Conf P d t/\d.bulk<=Rows.uptoBulk x.1)(cs:List Value):
  ∀(fs:List Field) (o tot:Nat) (ys:List (DataW H×List MemPlace)),(∀f∈fs,f.type∈K)->flat P fs o=some tot->cs.length=tot->ys.length=fs.length ->
   (∀(i:Nat) (f:Field),fs[i]?=some f->DataW.trod enc P w base spare held n f.type ((cs.drop f.offset).take (P.cellsOf f.type))=ys[i]?) ->
   ∃l,RdAgg w (Old w) l (cs.drop o)/\ConfL P l (fs.map (·.type))/\D.bulks l<=Rows.uptoBulkAll (ys.map (·.1))
 |[],o,tot,ys,hK,hf,hc,hy,hg=>by
  simp only[flat,Zc]at hf;exact⟨[],by unfold RdAgg;exact ZQ (by omega),by unfold ConfL;rfl,by unfold D.bulks;exact ZB _⟩
 |f::fs,o,tot,ys,hK,hf,hc,hy,hg=>by
  simp only[flat]at hf;split at hf
  ·next hfo=>
   match ys,hy with
   |y::ys,hy=>
    have h0:=hg 0 f rfl;obtain⟨d,hd,hcf,hdb⟩:=ih f.type (hK f (by simp)) _ _ h0;obtain⟨l,hl,hcl2,hlb⟩:=akh ih cs fs (o+P.cellsOf f.type) tot ys (fun g hg=>hK g (by simp[hg])) hf hc (by simpa using hy) (fun i g hi=>by simpa using hg (i+1) g (by simpa using hi));refine⟨d::l,?_,?_,?_⟩
    ·unfold RdAgg;refine⟨_,cs.drop (o+P.cellsOf f.type),?_,by rw[hfo]at hd;exact hd,hl⟩;rw[<-Y6,Yo]
    ·unfold ConfL;exact⟨f.type,fs.map (·.type),rfl,hcf,hcl2⟩
    ·rw[ZM,Rows.uptoBulkAll,D.bulks];exact Nat.add_le_add hdb hlb
  ·cases hf
theorem bq2(hP:plainAll P K=true):∀(n:Nat) (t:TypeId),t∈K->∀cs x,DataW.trod enc P w base spare held n t cs=some x->∃d,Rd w (Old w) d cs/\Conf P d t/\d.bulk<=Rows.uptoBulk x.1
 |0,t,hK,cs,x,h=>by simp[DataW.trod]at h
 |n+1,t,hK,cs,x,h=>by
  have hk:plainB P K t=true:=by
   unfold plainAll at hP;rw[ZD]at hP;exact hP t hK
  unfold plainB at hk;split at hk
  ·next k hu=>
   obtain⟨m,rfl,rfl,hw⟩:=DataW.trod_int hu h;exact⟨.int k m,by unfold Rd;rfl,by unfold Conf;exact⟨hu,hw⟩,by unfold D.bulk Rows.uptoBulk;exact Ze _⟩
  ·next hu=>
   obtain⟨s,rfl,rfl,hs⟩:=DataW.trod_string hu h;exact⟨.str s.data.toList,by unfold Rd;simp,by unfold Conf;exact⟨hu,by simpa using hs⟩,by unfold D.bulk Rows.uptoBulk;exact Ze _⟩
  ·next hu=>
   obtain⟨b,rfl,rfl⟩:=DataW.trod_bool hu h;exact⟨.bool b,by unfold Rd;rfl,by unfold Conf;exact hu,by unfold D.bulk Rows.uptoBulk;exact Ze _⟩
  ·next fs hu=>
   rw[Zg,ZD,ZT]at hk;obtain⟨xs,n',hn,rfl,hcl,hxl,hg⟩:=DataW.trod_struct hu h;obtain rfl:n'=n:=by omega
   obtain⟨l,hl,hcf,hlb⟩:=akh (fun t hK cs x h=>bq2 hP n' t hK cs x h) cs fs.toList 0 _ xs (fun f hf=>by simpa using hk.1 f hf) hk.2 hcl (by simpa using hxl) (fun i f hi=>hg i f (by simpa using hi));exact⟨.agg l,by unfold Rd;exact hl,by unfold Conf;exact⟨fs,hu,hcf⟩,by rw[D.bulk,Rows.uptoBulk];exact Nat.succ_le_succ hlb⟩
  ·next e hu=>
   rw[Zg,Zx]at hk;have heK:e∈K:=by simpa using hk.1
   have hpos:=hk.2;rcases DataW.trod_slice hu h with⟨rfl,rfl⟩|⟨a,len,cap,elems,rest,n',hn,rfl,rfl,hb,hlc,hcm,hel,hi,_⟩
   ·exact⟨.sl (P.cellsOf e) [],by unfold Rd;exact⟨none,0,rfl,Ze _,by unfold RdRow;trivial⟩,by unfold Conf;exact⟨e,hu,rfl,by unfold ConfA;trivial,by simp⟩,by simp[D.bulk,D.bulks,Rows.uptoBulk]⟩
   ·obtain rfl:n'=n:=by omega
    have hex:∀i,i<len->∃d:D,∃c,c.length=P.cellsOf e/\(∀j,j<P.cellsOf e->w.cell? ((a.add (i*P.cellsOf e)).add j)=c[j]?)/\Rd w (Old w) d c/\Conf P d e/\∀y,elems[i]?=some y->d.bulk<=Rows.uptoBulk y.1:=by
     intro i hil;have h1:=hi i hil;have h2:elems[i]?=some (elems[i]'(by omega)):=Zj (by omega);rw[h2]at h1;obtain⟨c,hc,ht⟩:=Zd.1 h1;obtain⟨d,hd,hcf,hdb⟩:=bq2 hP n' e heK c _ ht;obtain⟨_,hcl,hat⟩:=World.cells?_some hc;exact⟨d,c,hcl,hat,hd,hcf,fun y hy=>by rw[h2]at hy;injection hy with hy;subst hy;exact hdb⟩
    haveI:Inhabited D:=⟨.bool true⟩
    obtain⟨f,hf⟩:=choose_lt hex;refine⟨.sl (P.cellsOf e) ((List.range len).map f),?_,?_,?_⟩
    ·unfold Rd;refine⟨some a,cap,by simp,by simpa using hlc,RdRow.of _ _ _ fun k hk=>?_⟩;have hkl:k<len:=by simpa using hk
     obtain⟨c,hcl,hat,hrd,_⟩:=hf k hkl;obtain⟨c0,hcl0,hat0,_,_⟩:=hf 0 (by omega);obtain⟨g,off,sp⟩:=a;have h0:=hat0 0 hpos;rw[Zj (by omega)]at h0;have hs:sp=none:=by
      have:=(aqy h0).1;simpa [Addr.add]using this
     subst hs;have h1:=hat 0 hpos;rw[Zj (by omega)]at h1;have hlt:=(aqy h1).2;rw[aq1,aq1]at hlt;refine⟨g,off,c,rfl,hlt,hcl,fun j hj=>?_,by simpa using hrd⟩;have:=hat j hj;rw[aq1,aq1]at this;rw[Yj];exact this
    ·unfold Conf;exact⟨e,hu,rfl,bkv P e _ fun k hk=>by simpa using (hf k (by simpa using hk)).choose_spec.2.2.2.1,by simp;omega⟩
    ·rw[D.bulk,Rows.uptoBulk]
     have:=bk6 ((List.range len).map f) (elems.map (·.1)) (by simp;omega) (fun i hi hj=>by
      obtain⟨c,_,_,_,_,h9⟩:=hf i (by simpa using hi)
      simpa using h9 (elems[i]'(by simpa using hj)) (Zj _))
     omega
  ·cases hk
end
end
section
open Go.RowKit Go.ChangeShapes Go.WideShapes
theorem bz1{α:Type}{f:α->D}{Q:α->Prop}:∀l:List D,(∀d∈l,∃x,d=f x/\Q x)->∃xs:List α,l=xs.map f/\∀x∈xs,Q x
 |[],h=>⟨[],rfl,by simp⟩
 |d::l,h=>by
  obtain⟨x,rfl,hx⟩:=h d (by simp);obtain⟨xs,rfl,hxs⟩:=bz1 l fun d hd=>h d (by simp[hd])
  exact⟨x::xs,rfl,Y7.2 ⟨hx,hxs⟩⟩
namespace Sf
def Inst.toD(x:Inst):D:=.agg [.str x.addr,.str x.dep,.str x.id,.str x.typ,x.attrs.toD,.int .i64 x.ver,.bool x.tainted,.bool x.first,.sl 1 (x.deps.map .str)]
def Pend.toD(p:Pend):D:=.agg [.str p.addr,.str p.typ,.str p.tok]
def Outp.toD(o:Outp):D:=.agg [.str o.name,o.value.toD,.bool o.sens]
def St.toD(s:St):D:=.agg [.str s.lin,.int .i64 s.ser,.sl 13 (s.insts.map Inst.toD),.sl 3 (s.pends.map Pend.toD),.sl 7 (s.outs.map Outp.toD)]
structure St.Wf(s:St):Prop where
 insts:∀x∈s.insts,x.attrs.Wf
 outs:∀x∈s.outs,x.value.Wf
 ser:(Lit.int .i64 s.ser).wf=true
theorem Inst.cells_toD(x:Inst):x.toD.cells=x.cells:=by
 obtain⟨a,d,i,t,⟨k,n,s,is,ks⟩,v,tn,fi,ds⟩:=x;unfold Inst.toD Inst.cells;simp only[D.cells,D.cellsL,V.cells_toD,V.cells,aj8,ZE,Zq,Zz]
theorem Pend.cells_toD(x:Pend):x.toD.cells=x.cells:=by
 unfold Pend.toD Pend.cells;simp only[D.cells,D.cellsL,ZE,Zq,Zz]
theorem Outp.cells_toD(x:Outp):x.toD.cells=x.cells:=by
 obtain⟨m,⟨k,n,s,is,ks⟩,b⟩:=x;unfold Outp.toD Outp.cells;simp only[D.cells,D.cellsL,V.cells_toD,V.cells,aj8,ZE,Zq,Zz]
theorem rows_map{α:Type}(f:α->D)(g:α->List AX.A)(h:∀x,(f x).cells=g x):∀l:List α,D.rows (l.map f)=l.map g
 |[]=>by simp[D.rows]
 |x::l=>by simp only[ZM,D.rows,h,rows_map f g h l]
theorem St.cells_toD(s:St):AX.A.agg s.toD.cells=s.A:=by
 unfold St.toD St.A;simp only[D.cells,D.cellsL,rows_map _ _ Inst.cells_toD,rows_map _ _ Pend.cells_toD,rows_map _ _ Outp.cells_toD,ZE,Zq,Zz]
theorem conf_outp{d:D}(h:Conf Tryz.prog d 55):∃x:Outp,d=x.toD/\x.value.Wf:=by
 obtain⟨l',rfl,h2⟩:=axq Tryz.underlying55 h;obtain⟨d0,l1,rfl,c0,h2⟩:=azx h2;obtain⟨d1,l2,rfl,c1,h2⟩:=azx h2;obtain⟨d2,l3,rfl,c2,h2⟩:=azx h2;obtain rfl:=awg h2;obtain⟨a,rfl,_⟩:=akr Tryz.underlying9 c0;obtain⟨v,rfl,hv⟩:=cvq c1;obtain⟨t,rfl⟩:=bj2 Tryz.underlying4 c2;exact⟨⟨a,v,t⟩,rfl,hv⟩
end Sf
namespace Sf
end Sf
end
end Go.Proofs.YthhpocnmfknalaaGreatDoor
