/- Part of what the proof needs. -/
import Derived.Test.YtahmpiioegemaaaGreatDoorMFrJournalPrefixUptoG
import Derived.Test.YtahmpiioegemaaaGreatDoorMFrJournalPrefixUptoK
import Derived.Test.YtahmpiioegemaaaGreatDoorMFrJournalPrefixUptoM
import Derived.Test.YtahmpiioegemaaaGreatDoorMFrJournalPrefixUptoN
set_option maxHeartbeats 4000000
set_option linter.unusedSimpArgs false
set_option linter.unusedVariables false
set_option linter.unnecessarySimpa false
namespace Go.Proofs.YtahmpiioegemaaaGreatDoor
open Go.RowKit
namespace Wire
theorem numR_rest (r:St):(numR r).1.rest.length≤r.rest.length:=by
 unfold numR
 split
 ·exact Nat.le_refl _
 ·split
  ·exact Nat.le_refl _
  ·simp
theorem cntR_rest (r:St) (n:Nat):(cntR r n).1.rest.length≤r.rest.length:=by
 unfold cntR
 split
 ·exact Nat.le_refl _
 ·split
  ·exact Nat.le_refl _
  ·split
   ·exact Nat.le_refl _
   ·split
    ·exact Nat.le_refl _
    ·simp
theorem cntR_cnt (r:St):(cntR r 1).2≤r.rest.length:=by
 unfold cntR
 split
 ·simp
 ·split
  ·simp
  ·split
   ·simp
   ·split
    ·simp
    ·next h=>simp only [Nat.div_one] at h ⊢; omega
theorem strR_rest (r:St):(strR r).1.rest.length≤r.rest.length:=by
 have:=cntR_rest r 1
 unfold strR
 dsimp only
 split
 ·exact this
 ·simp; omega
end Wire
namespace Val
theorem itemsW_step (one:Wire.St→Res) (m:Bool) (c:Nat) (r:Wire.St) (is:List V) (ks:List (List UInt8)) (q:Wire.St×List UInt8) (hq:q=if m then Wire.strR r else (r,[])):itemsW one m (c+1) r is ks=if (one q.1).2.1≠0 then ((one q.1).1,(one q.1).2.1,is,ks) else itemsW one m c (one q.1).1 (is++[(one q.1).2.2]) (if m then ks++[q.2] else ks):=by
 subst hq
 rw [itemsW]
theorem itemsW_le {one:Wire.St→Res} (h1:∀ r,(one r).1.rest.length≤r.rest.length) (m:Bool):∀ (c:Nat) (r:Wire.St) (is:List V) (ks:List (List UInt8)),(itemsW one m c r is ks).1.rest.length≤r.rest.length
 | 0,r,is,ks=>Nat.le_refl _
 | c+1,r,is,ks=>by
  obtain ⟨q,hqe⟩:∃ q,q=if m then Wire.strR r else (r,[]):=⟨_,rfl⟩
  have hq:q.1.rest.length≤r.rest.length:=by
   rw [hqe]
   split
   ·exact Wire.strR_rest r
   ·exact Nat.le_refl _
  rw [itemsW_step one m c r is ks q hqe]
  have h2:=h1 q.1
  split
  ·show (one q.1).1.rest.length≤_
   omega
  ·have:=itemsW_le h1 m c (one q.1).1 (is++[(one q.1).2.2]) (if m then ks++[q.2] else ks)
   omega
theorem read_le:∀ (f:Nat) (r:Wire.St),(read f r).1.rest.length≤r.rest.length
 | 0,r=>by rw [read]; exact Nat.le_refl _
 | f+1,r=>by
  have ih:=read_le f
  have hn:=Wire.numR_rest r
  have hn2:=Wire.numR_rest (Wire.numR r).1
  have hs2:=Wire.strR_rest (Wire.numR r).1
  have hc2:=Wire.cntR_rest (Wire.numR r).1 1
  have hi2:=itemsW_le ih ((Wire.numR r).2 == 5) (Wire.cntR (Wire.numR r).1 1).2 (Wire.cntR (Wire.numR r).1 1).1 [] []
  rw [read]
  unfold readW
  dsimp only
  split
  ·exact Nat.le_refl _
  ·split
   ·exact hn
   ·split
    ·exact hn
    ·split
     ·simp only; omega
     ·split
      ·simp only; omega
      ·split
       ·simp only; omega
       ·exact hn
end Val
namespace AX
def RQ (i:Nat) (r:Wire.St) (h h':Hp):Prop:=h'.b[i]?=some (rdr r)∧(∀ (j:Nat) x,j≠i→h.b[j]?=some x→h'.b[j]?=some x)∧∀ (t:Nat) x,h.t[t]?=some x→h'.t[t]?=some x
theorem RQ.of {i:Nat} {r r':Wire.St} {h:Hp} (hb:h.b[i]?=some (rdr r)):RQ i r' h ⟨h.b.set i (rdr r'),h.t⟩:=by
 have hlt:=(List.getElem?_eq_some_iff.1 hb).1
 refine ⟨?_,fun j x hj hx=>?_,fun _ _ hx=>hx⟩
 ·show (List.set _ i _)[i]?=_
  rw [List.getElem?_set,if_pos rfl,if_pos hlt]
 ·show (List.set _ i _)[j]?=_
  rw [List.getElem?_set,if_neg (Ne.symm hj)]; exact hx
theorem RQ.tr {i:Nat} {r r':Wire.St} {h h' h'':Hp} (a:RQ i r h h') (b:RQ i r' h' h''):RQ i r' h h'':=
 ⟨b.1,fun j x hj hx=>b.2.1 j x hj (a.2.1 j x hj hx),fun t x hx=>b.2.2 t x (a.2.2 t x hx)⟩
theorem get_app7 {l m:List Blk} {i:Nat} {x:Blk} (h:l[i]?=some x):(l++m)[i]?=some x:=by
 rw [List.getElem?_append_left (List.getElem?_eq_some_iff.1 h).1]; exact h
theorem set_new7 (l:List Blk) (x y:Blk):(l++[x]).set l.length y=l++[y]:=by
 rw [List.set_append_right _ _ (Nat.le_refl _)]; simp
theorem RQ.app {b:List Blk} {t:_} {m:List Blk} {h':Hp} {i:Nat} {r:Wire.St} (hp:RQ i r ⟨b++m,t⟩ h'):RQ i r ⟨b,t⟩ h':=
 ⟨hp.1,fun j x hj hx=>hp.2.1 j x hj (get_app7 hx),hp.2.2⟩
def Gs (E:TypeId) (W lo:Nat) (h:Hp) (rows:List (List A)) (x:A):Prop:=(rows=[]∧x = .sl 0 .nil [])∨∃ t,lo≤t∧x = .sl W (.tok t) rows∧h.t[t]?=some (E,W,rows.length)
theorem Gs.app {E:TypeId} {W lo:Nat} {h:Hp} {rows:List (List A)} {x:A} (hg:Gs E W lo h rows x) (hlo:lo≤h.t.length) (bytes:Nat) (y:List A) (h1:rows.length+1≤1000000000) (h2:bytes≤1000) :
  ∃ x' t',(∀ b,appA ⟨b,h.t⟩ E W bytes x (.sl W .no [y])=some (x',⟨b,t'⟩))∧(∀ b,Gs E W lo ⟨b,t'⟩ (rows++[y]) x')∧(∀ (t:Nat) z,t < lo→h.t[t]?=some z→t'[t]?=some z)∧lo≤t'.length∧∀ (t:Nat) E' W' n,E'≠E→h.t[t]?=some (E',W',n)→t'[t]?=some (E',W',n):=by
 have hb1:(rows.length+1)*bytes≤140737488355328:=Nat.le_trans (Nat.mul_le_mul h1 h2) (by decide)
 have hb2:1*bytes≤140737488355328:=by omega
 rcases hg with ⟨rfl,rfl⟩ | ⟨t,ht,rfl,htt⟩
 ·refine ⟨.sl W (.tok h.t.length) [y],h.t++[(E,W,1)],?_,?_,?_,?_,?_⟩
  ·intro b; exact if_pos (show W=W∧0 < [y].length∧[y].length≤maxLen∧[y].length*bytes≤140737488355328 from ⟨rfl,by simp,by simp [maxLen],by simpa using hb2⟩)
  ·intro b; exact .inr ⟨h.t.length,hlo,rfl,by simp⟩
  ·intro t z _ hz
   rw [List.getElem?_append_left (List.getElem?_eq_some_iff.1 hz).1]; exact hz
  ·simp; omega
  ·intro t E' W' n _ hz
   rw [List.getElem?_append_left (List.getElem?_eq_some_iff.1 hz).1]; exact hz
 ·refine ⟨.sl W (.tok t) (rows++[y]),h.t.set t (E,W,rows.length+1),?_,?_,?_,?_,?_⟩
  ·intro b; exact if_pos (show W=W∧W=W∧0 < [y].length∧h.t[t]?=some (E,W,rows.length)∧rows.length+[y].length≤maxLen∧(rows.length+[y].length)*bytes≤140737488355328 from ⟨rfl,rfl,by simp,htt,by simp [maxLen]; omega,by simpa using hb1⟩)
  ·intro b; refine .inr ⟨t,ht,rfl,?_⟩
   show (h.t.set t _)[t]?=_
   rw [List.getElem?_set,if_pos rfl,if_pos (List.getElem?_eq_some_iff.1 htt).1]; simp
  ·intro t' z hlt hz
   rw [List.getElem?_set,if_neg (by omega)]; exact hz
  ·simpa using hlo
  ·intro t' E' W' n hne hz
   rw [List.getElem?_set,if_neg (fun e=>by subst e; rw [htt] at hz; injection hz with hz; injection hz with hz; exact hne hz.symm)]; exact hz
theorem Gs.sl {E:TypeId} {W lo:Nat} {h:Hp} {rows:List (List A)} {x:A} (hg:Gs E W lo h rows x):∃ W' o,x = .sl W' o rows:=by
 rcases hg with ⟨rfl,rfl⟩ | ⟨t,_,rfl,_⟩ <;> exact ⟨_,_,rfl⟩
theorem Gs.one {E:TypeId} {W lo:Nat} {h:Hp} {rows:List (List A)} {x:A} (hg:Gs E W lo h rows x):x.one=true:=by
 rcases hg with ⟨_,rfl⟩ | ⟨t,_,rfl,_⟩ <;> rfl
theorem Gs.le {E:TypeId} {W lo:Nat} {h:Hp} {rows:List (List A)} {x:A} (hg:Gs E W lo h rows x):le1 x (.sl W .no rows):=by
 rcases hg with ⟨rfl,rfl⟩ | ⟨t,_,rfl,_⟩ <;> simp [le1]
theorem Gs.keep {E:TypeId} {W lo:Nat} {h h':Hp} {rows:List (List A)} {x:A} (hg:Gs E W lo h rows x) (hk:∀ (t:Nat) n,h.t[t]?=some (E,W,n)→h'.t[t]?=some (E,W,n)):Gs E W lo h' rows x:=by
 rcases hg with h1 | ⟨t,h1,h2,h3⟩
 ·exact .inl h1
 ·exact .inr ⟨t,h1,h2,hk _ _ h3⟩
theorem RQ.keep {i:Nat} {r:Wire.St} {h:Hp} (hb:h.b[i]?=some (rdr r)) (m:List Blk):RQ i r h ⟨h.b++m,h.t⟩:=⟨get_app7 hb,fun j x _ hx=>get_app7 hx,fun _ _ hx=>hx⟩
theorem RQ.set {i k:Nat} {r:Wire.St} {h h':Hp} (hp:RQ i r h h') (hk:h.b.length≤k) (hi:i≠k) (x:Blk) (t':_) (ht:t'=h'.t):RQ i r h ⟨h'.b.set k x,t'⟩:=by
 subst ht
 refine ⟨?_,fun j y hj hy=>?_,hp.2.2⟩
 ·show (List.set _ k _)[i]?=_
  rw [List.getElem?_set,if_neg (Ne.symm hi)]; exact hp.1
 ·have:=(List.getElem?_eq_some_iff.1 hy).1
  show (List.set _ k _)[j]?=_
  rw [List.getElem?_set,if_neg (by omega)]; exact hp.2.1 j y hj hy
theorem le_zero (e:Int):le (.tup [.agg [.int .i64 0,.int .i64 0,.str [],.sl 0 .nil [],.sl 0 .nil []],.int .i64 e]) (.tup [Val.zeroV.A,.int .i64 e]):=by
 simp [le,leL2,le2,leL,le1,V.A,V.cells,Val.zeroV,V.cellss,strsA]
def VR (res:Val.Res) (v:A):Prop:=∃ l,v = .tup [.agg l,.int .i64 res.2.1]∧l.length=5∧l.all A.one=true∧(res.2.1=0→l=res.2.2.cells)
theorem V.cells_data (v:V):v.cells.all A.data=true:=by
 obtain ⟨k,n,s,is,ks⟩:=v
 rfl
theorem V.cells_one (v:V):v.cells.length=5∧v.cells.all A.one=true:=by
 obtain ⟨k,n,s,is,ks⟩:=v
 exact ⟨rfl,rfl⟩
theorem VR.err {res:Val.Res} {e:Int} (h:res.2.1=e) (he:e≠0):VR res (.tup [Val.zeroV.A,.int .i64 e]):=
 ⟨Val.zeroV.cells,by rw [h]; rfl,(V.cells_one _).1,(V.cells_one _).2,fun h0=>absurd (h.symm.trans h0) he⟩
theorem RQ.tlen {i:Nat} {r:Wire.St} {h h':Hp} (hp:RQ i r h h'):h.t.length≤h'.t.length:=by
 by_cases h0:h.t.length=0
 ·omega
 ·have:=hp.2.2 (h.t.length - 1) _ (List.getElem?_eq_getElem (by omega))
  have:=(List.getElem?_eq_some_iff.1 this).1
  omega
theorem list5 {l:List A} (hl:l.length=5):∃ a0 a1 a2 a3 a4,l=[a0,a1,a2,a3,a4]:=by
 match l,hl with
 | [a0,a1,a2,a3,a4],_=>exact ⟨_,_,_,_,_,rfl⟩
theorem cellss_app (l:List V) (v:V):V.cellss (l++[v])=V.cellss l++[v.cells]:=by
 rw [V.cellss_map,V.cellss_map]; simp
theorem strsA_app (l:List (List UInt8)) (s:List UInt8):strsA (l++[s])=strsA l++[[.str s]]:=by simp [strsA]
def tailOps:List AOper:=[⟨some 86,.load true 5 (.t 9),none,[]⟩,⟨some 87,.mv (.t 0),none,[]⟩,⟨some 88,.call 78 [.t 87],none,[1]⟩,⟨none,.store 5 (.t 4) (.t 86),none,[0,2,0]⟩,⟨some 5,.mv (.t 88),none,[2,3,0,1,2,3]⟩]
theorem read_tail {ts:Ts} {hh:Hp} {i b4 b9:Nat} {q:Wire.St} {l l0:List A} {T:TypeId} {Q:AExit→Ts→Hp→Prop} (t0:ts 0 = .ptr i 0) (t4:ts 4 = .ptr b4 0) (t9:ts 9 = .ptr b9 0) (hi:hh.b[i]?=some (rdr q)) (h4:hh.b[b4]?=some (.cells T l0)) (hl0:l0.length=5) (h9:hh.b[b9]?=some (.cells T l)) (hl:l.length=5) (hlo:l.all A.one=true)
  (hQ:Q .normal (put (put (put (put (put ts (some 86) (.agg l)) (some 87) (.ptr i 0)) (some 88) (.int .i64 q.e)) none (.tup [])) (some 5) (.int .i64 q.e)) ⟨hh.b.set b4 (.cells T l),hh.t⟩):awp Tryz.prog GT (.reg true tailOps) Q ts hh:=by
 refine awp_chain [3] [hh,⟨hh.b.set b4 (.cells T l),hh.t⟩] [[0],[0,1],[0],[0],[1]] rfl (by decide) ?_
 obtain ⟨a0,a1,a2,a3,a4,rfl⟩:∃ a0 a1 a2 a3 a4,l=[a0,a1,a2,a3,a4]:=by
  match l,hl with
  | [a0,a1,a2,a3,a4],_=>exact ⟨_,_,_,_,_,rfl⟩
 obtain ⟨c0,c1,c2,c3,c4,rfl⟩:∃ a0 a1 a2 a3 a4,l0=[a0,a1,a2,a3,a4]:=by
  match l0,hl0 with
  | [a0,a1,a2,a3,a4],_=>exact ⟨_,_,_,_,_,rfl⟩
 refine gc_op (v:=.agg [a0,a1,a2,a3,a4]) rfl ⟨?_,trivial⟩ ?_
 ·simp [evX,astep,loadA,t9,h9]
 refine gc_op (v:=.ptr i 0) rfl ⟨?_,?_,trivial⟩ ?_
 ·simp [evX,put,astep,t0]
 ·simp [evX,put,astep,t0]
 refine gc_call (vs:=[.ptr i 0]) (v:=.int .i64 q.e) (by simp [evX,put]) ⟨a_err hi,trivial⟩ ?_
 refine gc_op (v:=.tup []) rfl ⟨?_,trivial⟩ ?_
 ·simp only [List.all_cons,List.all_nil,Bool.and_true,Bool.and_eq_true] at hlo
  simp [evX,put,astep,storeA,t4,h4,setCells,A.cells,hlo]
 refine gc_op (v:=.int .i64 q.e) rfl ⟨?_,trivial⟩ ?_
 ·simp [evX,put,astep]
 exact gc_nil hQ
theorem t_read:∀ (f:Nat) (r:Wire.St) (i:Nat) (h:Hp),f≤32→h.b[i]?=some (rdr r)→r.rest.length≤100000000→ACall Tryz.prog GT 186 [.ptr i 0,.int .i64 (33 - (f:Int))] h fun v h'=>VR (Val.read f r) v∧RQ i (Val.read f r).1 h h':=by
 intro f
 induction f with
 | zero =>
  rintro r i ⟨hb,ht⟩ hf hbi hlen
  refine fo ?_
  have hil:=(List.getElem?_eq_some_iff.1 hbi).1
  refine go0 ti ?_
  refine gc0 ti ?_
  refine (a_err (get_app7 hbi)).mono ?_
  rintro v h' ⟨rfl,rfl⟩
  by_cases he:r.e=0
  ·have he':(r.e != 0)=false:=by simp [he]
   have hlv:(33 - ((0:Nat):Int)) > 32:=by decide
   refine go0 (ai he' (ai hlv @set_new7)) ?_
   have hRR:Val.read 0 r=(r,4,Val.zeroV):=by rw [Val.read,if_neg (by simp [he])]
   rw [hRR]
   exact ⟨_,le_zero 4,VR.err rfl (by decide),RQ.keep hbi _⟩
  ·have he':(r.e != 0)=true:=by simp [he]
   refine go0 (ai he' @set_new7) ?_
   have hRR:Val.read 0 r=(r,r.e,Val.zeroV):=by rw [Val.read,if_pos (by simp [he])]
   rw [hRR]
   exact ⟨_,le_zero r.e,VR.err rfl he,RQ.keep hbi _⟩
 | succ f ih =>
  rintro r i ⟨hb,ht⟩ hf hbi hlen
  refine fo ?_
  have hil:i < hb.length:=(List.getElem?_eq_some_iff.1 hbi).1
  have hR:Val.read (f+1) r=Val.readW (Val.read f) r:=by rw [Val.read]
  refine go0 ti ?_
  refine gc0 ti ?_
  refine (a_err (get_app7 hbi)).mono ?_
  rintro v h' ⟨rfl,rfl⟩
  by_cases he:r.e=0
  rotate_left
  ·have he':(r.e != 0)=true:=by simp [he]
   refine go0 (ai he' @set_new7) ?_
   have hRR:Val.read (f+1) r=(r,r.e,Val.zeroV):=by rw [hR,Val.readW,if_pos he]
   rw [hRR]
   exact ⟨_,le_zero r.e,VR.err rfl he,RQ.keep hbi _⟩
  have he':(r.e != 0)=false:=by simp [he]
  have hlv:¬ (33 - ((f+1:Nat):Int)) > 32:=by omega
  refine go0 (ai he' hlv) ?_
  refine gc0 ti ?_
  refine (a_number (get_app7 hbi) hlen).mono ?_
  rintro v h1 ⟨rfl,hh1⟩
  have hq1:RQ i (Wire.numR r).1 ⟨hb,ht⟩ h1:=by rw [hh1]; exact (RQ.of (h:=⟨hb++_,ht⟩) (get_app7 hbi)).app
  have hz1:h1.b[hb.length]?=some (.cells 34 [.int .i64 0,.int .i64 0,.str [],.sl 0 .nil [],.sl 0 .nil []]):=by
   rw [hh1]
   show (List.set _ i _)[hb.length]?=_
   rw [List.getElem?_set,if_neg (by omega)]; exact List.getElem?_concat_length
  clear hh1
  have hn:=Wire.numR_rest r
  obtain ⟨q,hq⟩:∃ q,Wire.numR r=q:=⟨_,rfl⟩
  rw [hq] at hq1 hn ⊢
  have hsz:∀ (i':Nat) x,(h1.b++[x])[hb.length]?=some (.cells 34 [.int .i64 0,.int .i64 0,.str [],.sl 0 .nil [],.sl 0 .nil []]):=fun _ x=>get_app7 hz1
  have hset:∀ y,(h1.b.set hb.length y)[hb.length]?=some y:=fun y=>by
   rw [List.getElem?_set,if_pos rfl,if_pos (List.getElem?_eq_some_iff.1 hz1).1]
  refine go0 ti ?_
  refine gc0 ti ?_
  refine (a_err hq1.1).mono ?_
  rintro v h1 ⟨rfl,rfl⟩
  by_cases hqe:q.1.e=0
  rotate_left
  ·have he':(q.1.e != 0)=true:=by simp [hqe]
   refine go0 (ai he' (ai hz1 hset)) ?_
   have hRR:Val.read (f+1) r=(q.1,q.1.e,Val.zeroV):=by
    rw [hR,Val.readW,if_neg (by simp [he])]; dsimp only; rw [hq,if_pos hqe]
   rw [hRR]
   exact ⟨_,le_zero q.1.e,VR.err rfl hqe,hq1.set (Nat.le_refl _) (by show i≠hb.length; omega) _ _ rfl⟩
  have he'':(q.1.e != 0)=false:=by simp [hqe]
  have hil1:i≠h1.b.length:=fun e=>by have:=(List.getElem?_eq_some_iff.1 hq1.1).1; omega
  have hb4:hb.length≠h1.b.length:=fun e=>by have:=(List.getElem?_eq_some_iff.1 hz1).1; omega
  have hib4:i≠hb.length:=by omega
  have hbl:hb.length≤h1.b.length:=by have:=(List.getElem?_eq_some_iff.1 hz1).1; omega
  have hW:Val.readW (Val.read f) r=if q.2 < 0∨6 < q.2 then (q.1,1,Val.zeroV)
   else if q.2=1∨q.2=2 then ((Wire.numR q.1).1,(Wire.numR q.1).1.e,.mk q.2 (Wire.numR q.1).2 [] [] [])
   else if q.2=3 then ((Wire.strR q.1).1,(Wire.strR q.1).1.e,.mk q.2 0 (Wire.strR q.1).2 [] [])
   else if q.2=4∨q.2=5 then ((Val.itemsW (Val.read f) (q.2 == 5) (Wire.cntR q.1 1).2 (Wire.cntR q.1 1).1 [] []).1,(Val.itemsW (Val.read f) (q.2 == 5) (Wire.cntR q.1 1).2 (Wire.cntR q.1 1).1 [] []).2.1,.mk q.2 0 [] (Val.itemsW (Val.read f) (q.2 == 5) (Wire.cntR q.1 1).2 (Wire.cntR q.1 1).1 [] []).2.2.1 (Val.itemsW (Val.read f) (q.2 == 5) (Wire.cntR q.1 1).2 (Wire.cntR q.1 1).1 [] []).2.2.2)
   else (q.1,0,.mk q.2 0 [] [] []):=by
   rw [Val.readW,if_neg (by simp [he])]; dsimp only; rw [hq,if_neg (by simp [hqe])]
  by_cases hk0:q.2 < 0
  ·refine go0 (ai he'' (ai hk0 (ai hz1 hset))) ?_
   have hRR:Val.read (f+1) r=(q.1,1,Val.zeroV):=by rw [hR,hW,if_pos (.inl hk0)]
   rw [hRR]
   exact ⟨_,le_zero 1,VR.err rfl (by decide),hq1.set (Nat.le_refl _) hib4 _ _ rfl⟩
  by_cases hk6:q.2 > 6
  ·refine go0 (ai he'' (ai hk0 (ai hk6 (ai hz1 hset)))) ?_
   have hRR:Val.read (f+1) r=(q.1,1,Val.zeroV):=by rw [hR,hW,if_pos (.inr hk6)]
   rw [hRR]
   exact ⟨_,le_zero 1,VR.err rfl (by decide),hq1.set (Nat.le_refl _) hib4 _ _ rfl⟩
  rw [if_neg (by omega)] at hW
  have fin:∀ (h2:Hp) (q2:Wire.St) (n:Int) (s:List UInt8) (is:List V) (ks:List (List UInt8)) (X Y:A),RQ i q2 ⟨hb,ht⟩ h2→Val.read (f+1) r=(q2,q2.e,.mk q.2 n s is ks)→le1 X (.sl 5 .no (V.cellss is))→le1 Y (.sl 1 .no (strsA ks)) →
    ∃ v,le (.tup [.agg [.int .i64 q.2,.int .i64 n,.str s,X,Y],.int .i64 q2.e]) v∧VR (Val.read (f+1) r) v∧RQ i (Val.read (f+1) r).1 ⟨hb,ht⟩ ⟨h2.b.set hb.length (.cells 34 [.int .i64 q.2,.int .i64 n,.str s,X,Y]),h2.t⟩:=by
   intro h2 q2 n s is ks X Y hp e hX hY
   rw [e]
   refine ⟨.tup [(V.mk q.2 n s is ks).A,.int .i64 q2.e],?_,⟨_,rfl,(V.cells_one (V.mk q.2 n s is ks)).1,(V.cells_one (V.mk q.2 n s is ks)).2,fun _=>rfl⟩,hp.set (Nat.le_refl _) hib4 _ _ rfl⟩
   simp only [V.A,V.cells,le,leL2,le2,leL,hX,hY,and_true,true_and]
   simp [le1]
  have hnilX:le1 (.sl 0 .nil []) (.sl 5 .no (V.cellss [])):=by simp [le1,V.cellss]
  have hnilY:le1 (.sl 0 .nil []) (.sl 1 .no (strsA [])):=by simp [le1,strsA]
  have leaf:∀ (ts:Ts) (h2:Hp) (q2:Wire.St) (n:Int) (s:List UInt8) (is:List V) (ks:List (List UInt8)) (X Y:A),ts 0 = .ptr i 0→ts 4 = .ptr hb.length 0→ts 9 = .ptr h1.b.length 0→RQ i q2 ⟨hb,ht⟩ h2 →
    h2.b[hb.length]?=some (.cells 34 [.int .i64 0,.int .i64 0,.str [],.sl 0 .nil [],.sl 0 .nil []])→h2.b[h1.b.length]?=some (.cells 34 [.int .i64 q.2,.int .i64 n,.str s,X,Y])→X.one=true→Y.one=true →
    Val.read (f+1) r=(q2,q2.e,.mk q.2 n s is ks)→le1 X (.sl 5 .no (V.cellss is))→le1 Y (.sl 1 .no (strsA ks)) →
    awp Tryz.prog GT (.reg true tailOps) (thenA (awp Tryz.prog GT .ret (finQ [.c 4 true 5,.t 5] fun v h'=>VR (Val.read (f+1) r) v∧RQ i (Val.read (f+1) r).1 ⟨hb,ht⟩ h')) (finQ [.c 4 true 5,.t 5] fun v h'=>VR (Val.read (f+1) r) v∧RQ i (Val.read (f+1) r).1 ⟨hb,ht⟩ h')) ts h2:=by
   intro ts h2 q2 n s is ks X Y t0 t4 t9 hp g4 g9 hX1 hY1 e hX hY
   refine read_tail t0 t4 t9 hp.1 g4 rfl g9 rfl (by simp only [List.all_cons,List.all_nil,hX1,hY1]; rfl) ?_
   have hs4:∀ y,(h2.b.set hb.length y)[hb.length]?=some y:=fun y=>by
    rw [List.getElem?_set,if_pos rfl,if_pos (List.getElem?_eq_some_iff.1 g4).1]
   refine go0 (ai t4 hs4) ?_
   exact fin h2 q2 n s is ks X Y hp e hX hY
  have aft:∀ (q2:Wire.St) (h2:Hp),h2=⟨(h1.b++[(.cells 34 [.int .i64 q.2,.int .i64 0,.str [],.sl 0 .nil [],.sl 0 .nil []]:Blk)]).set i (rdr q2),h1.t⟩→RQ i q2 ⟨hb,ht⟩ h2 ∧
    h2.b[hb.length]?=some (.cells 34 [.int .i64 0,.int .i64 0,.str [],.sl 0 .nil [],.sl 0 .nil []])∧h2.b[h1.b.length]?=some (.cells 34 [.int .i64 q.2,.int .i64 0,.str [],.sl 0 .nil [],.sl 0 .nil []]):=by
   rintro q2 h2 rfl
   refine ⟨hq1.tr (RQ.of (h:=⟨h1.b++_,h1.t⟩) (get_app7 hq1.1)).app,?_,?_⟩
   ·show (List.set _ i _)[_]?=_
    rw [List.getElem?_set,if_neg hib4]; exact get_app7 hz1
   ·show (List.set _ i _)[_]?=_
    rw [List.getElem?_set,if_neg hil1]; exact List.getElem?_concat_length
  by_cases hk12:q.2=1∨q.2=2
  ·rw [if_pos hk12] at hW
   have e12:(q.2 == 1)=true∨(q.2 == 1)=false∧(q.2 == 2)=true:=by
    rcases hk12 with h | h
    ·exact .inl (by simp [h])
    ·exact .inr ⟨by simp [h],by simp [h]⟩
   rcases e12 with e1 | ⟨e1,e2⟩
   all_goals
    refine go0 (ai he'' (ai hk0 (ai hk6 (ai @set_new7 e1)))) ?_
    try (refine go0 (ai he'' (ai hk0 (ai hk6 (ai @set_new7 (ai e1 e2))))) ?_)
    refine gc0 ti ?_
    refine (a_number (get_app7 hq1.1) (by omega)).mono ?_
    rintro v h2 ⟨rfl,hh2⟩
    obtain ⟨hq2,g4,g9⟩:=aft _ _ hh2
    have h9:∀ y,(h2.b.set h1.b.length y)[h1.b.length]?=some y:=fun y=>by
     rw [List.getElem?_set,if_pos rfl,if_pos (List.getElem?_eq_some_iff.1 g9).1]
    clear hh2
    refine go0 g9 ?_
    refine leaf _ _ (Wire.numR q.1).1 (Wire.numR q.1).2 [] [] [] _ _ (by (exact ev0 ti)) (by (exact ev0 ti)) (by (exact ev0 ti)) (hq2.set (by exact hbl) hil1 _ _ rfl) ?_ (h9 _) rfl rfl (by rw [hR,hW]) hnilX hnilY
    show (List.set _ _ _)[_]?=_
    rw [List.getElem?_set,if_neg (Ne.symm hb4)]; exact g4
  rw [if_neg hk12] at hW
  have e1:(q.2 == 1)=false:=by simp; omega
  have e2:(q.2 == 2)=false:=by simp; omega
  by_cases hk3:q.2=3
  ·rw [if_pos hk3] at hW
   have e3:(q.2 == 3)=true:=by simp [hk3]
   refine go0 (ai he'' (ai hk0 (ai hk6 (ai @set_new7 (ai e1 (ai e2 e3)))))) ?_
   refine gc0 ti ?_
   refine (a_rstring (get_app7 hq1.1) (by omega)).mono ?_
   rintro v h2 ⟨rfl,hh2⟩
   obtain ⟨hq2,g4,g9⟩:=aft _ _ hh2
   have h9:∀ y,(h2.b.set h1.b.length y)[h1.b.length]?=some y:=fun y=>by
    rw [List.getElem?_set,if_pos rfl,if_pos (List.getElem?_eq_some_iff.1 g9).1]
   clear hh2
   refine go0 g9 ?_
   refine leaf _ _ (Wire.strR q.1).1 0 (Wire.strR q.1).2 [] [] _ _ (by (exact ev0 ti)) (by (exact ev0 ti)) (by (exact ev0 ti)) (hq2.set (by exact hbl) hil1 _ _ rfl) ?_ (h9 _) rfl rfl (by rw [hR,hW]) hnilX hnilY
   show (List.set _ _ _)[_]?=_
   rw [List.getElem?_set,if_neg (Ne.symm hb4)]; exact g4
  rw [if_neg hk3] at hW
  have e3:(q.2 == 3)=false:=by simp [hk3]
  by_cases hk45:q.2=4∨q.2=5
  ·rw [if_pos hk45] at hW
   have e45:(q.2 == 4)=true∨(q.2 == 4)=false∧(q.2 == 5)=true:=by
    rcases hk45 with h | h
    ·exact .inl (by simp [h])
    ·exact .inr ⟨by simp [h],by simp [h]⟩
   rcases e45 with e4 | ⟨e4,e5⟩
   all_goals
    refine go0 (ai he'' (ai hk0 (ai hk6 (ai @set_new7 (ai e1 (ai e2 (ai e3 e4))))))) ?_
    try (refine go0 (ai he'' (ai hk0 (ai hk6 (ai @set_new7 (ai e1 (ai e2 (ai e3 (ai e4 e5)))))))) ?_)
    refine gc0 ti ?_
    refine (a_count (get_app7 hq1.1) (by omega)).mono ?_
    rintro v h2 ⟨rfl,hh2⟩
    obtain ⟨hq2,g4,g9⟩:=aft _ _ hh2
    clear hh2
    have hcr:=Wire.cntR_rest q.1 1
    have hcc:=Wire.cntR_cnt q.1
    obtain ⟨c0,hc0⟩:∃ c,Wire.cntR q.1 1=c:=⟨_,rfl⟩
    rw [hc0] at hq2 hcr hcc hW ⊢
    refine go0 g9 ?_
    refine awp_loop (fun m ts hh=>∃ (j:Nat) (p:Wire.St) (is:List V) (ks:List (List UInt8)) (X Y:A),m=c0.2 - j∧j≤c0.2∧Val.itemsW (Val.read f) (q.2 == 5) (c0.2 - j) p is ks=Val.itemsW (Val.read f) (q.2 == 5) c0.2 c0.1 [] []∧RQ i p ⟨hb,ht⟩ hh∧p.rest.length≤q.1.rest.length∧is.length≤j∧ks.length≤j ∧
      hh.b[hb.length]?=some (.cells 34 [.int .i64 0,.int .i64 0,.str [],.sl 0 .nil [],.sl 0 .nil []])∧hh.b[h1.b.length]?=some (.cells 34 [.int .i64 q.2,.int .i64 0,.str [],X,Y])∧Gs 34 5 ht.length hh (V.cellss is) X∧Gs 9 1 ht.length hh (strsA ks) Y∧ht.length≤hh.t.length ∧
      ts 0 = .ptr i 0∧ts 1 = .int .i64 (33 - ((f+1:Nat):Int))∧ts 4 = .ptr hb.length 0∧ts 9 = .ptr h1.b.length 0∧ts 55 = .int .i64 c0.2∧ts 56 = .int .i64 j) c0.2 ?_ ?_
    ·refine ⟨0,c0.1,[],[],_,_,rfl,Nat.zero_le _,rfl,hq2,hcr,Nat.le_refl _,Nat.le_refl _,g4,g9,.inl ⟨rfl,rfl⟩,.inl ⟨rfl,rfl⟩,hq2.tlen,?_⟩
     (exact inv0 ti)
    ·rintro m ts hh ⟨j,p,is,ks,X,Y,rfl,hj,hit,hp,hpl,hil2,hkl2,g4,g9,gX,gY,htl,t0,t1,t4,t9,t55,t56⟩
     by_cases hlt:j < c0.2
     ·have hlt2:(j:Int) < (c0.2:Int):=by omega
      have ei:IntKind.i64.wrap ((j:Int)+1)=(j:Int)+1:=wrap64 (by omega) (by omega)
      have elv:IntKind.i64.wrap ((33 - ((f+1:Nat):Int))+1)=33 - (f:Int):=by rw [wrap64 (by omega) (by omega)]; omega
      obtain ⟨d,hd⟩:∃ d,c0.2 - j=d+1:=⟨c0.2 - j - 1,by omega⟩
      obtain ⟨q2,hq2e⟩:∃ q2,q2=if (q.2 == 5)=true then Wire.strR p else (p,[]):=⟨_,rfl⟩
      rw [hd,Val.itemsW_step _ _ _ _ _ _ q2 hq2e] at hit
      have hbi:=hp.1
      have hcell:∀ y,(hh.b.set i y)[h1.b.length]?=some (.cells 34 [.int .i64 q.2,.int .i64 0,.str [],X,Y]):=fun y=>by
       rw [List.getElem?_set,if_neg hil1]; exact g9
      rcases bool_or (q.2 == 5) with e5' | e5'
      ·rw [if_pos e5'] at hq2e
       have hp':RQ i q2.1 ⟨hb,ht⟩ ⟨hh.b.set i (rdr q2.1),hh.t⟩:=hp.tr (RQ.of hbi)
       have hpl':q2.1.rest.length≤p.rest.length:=by rw [hq2e]; exact Wire.strR_rest p
       obtain ⟨ks',hks'⟩:∃ l,l=(if (q.2 == 5)=true then ks++[q2.2] else ks):=⟨_,rfl⟩
       rw [←hks'] at hit
       rw [if_pos e5'] at hks'
       obtain ⟨Y',t',hY1,hY2,hY3,hY4,hY5⟩:=gY.app htl 16 [.str q2.2] (by rw [strsA_length]; omega) (by decide)
       obtain ⟨Wy0,oy0,rfl⟩:=Gs.sl gY
       obtain ⟨Wy1,oy1,rfl⟩:=Gs.sl (hY2 [])
       refine go0 (ai t0 (ai t1 (ai t4 (ai t9 (ai t55 (ai t56 (ai hlt2 (ai g9 e5')))))))) ?_
       refine awp_chain [3,5,7] [hh,⟨hh.b.set i (rdr q2.1),hh.t⟩,⟨hh.b.set i (rdr q2.1),t'⟩,⟨(hh.b.set i (rdr q2.1)).set h1.b.length (.cells 34 [.int .i64 q.2,.int .i64 0,.str [],X,.sl Wy1 oy1 (strsA ks++[[.str q2.2]])]),t'⟩] [[0,1,2],[0,1],[0],[0],[1],[1],[2],[2]] rfl (by decide) ?_
       refine gc_op (v:=.ptr h1.b.length 4) rfl ⟨?_,?_,?_,trivial⟩ ?_
       ·simp [evX,put,astep,t9]
       ·simp [evX,put,astep,t9]
       ·simp [evX,put,astep,t9]
       refine gc_op (v:=.sl Wy0 oy0 (strsA ks)) rfl ⟨?_,?_,trivial⟩ ?_
       ·simp [evX,put,astep,loadA,g9]
       ·simp [evX,put,astep,loadA,hcell]
       refine gc_op (v:=.ptr i 0) rfl ⟨?_,trivial⟩ ?_
       ·simp [evX,put,astep,t0]
       refine gc_call (vs:=[.ptr i 0]) (v:=.str q2.2) (by simp [evX,put]) ⟨?_,trivial⟩ ?_
       ·rw [hq2e]; exact a_rstring hp.1 (by omega)
       refine gc_op (v:=.sl 1 .no [[.str q2.2]]) rfl ⟨?_,trivial⟩ ?_
       ·simp [evX,put,astep,rowsA,A.cells,A.data]
       refine gc_op (v:=.sl Wy1 oy1 (strsA ks++[[.str q2.2]])) rfl ⟨?_,trivial⟩ ?_
       ·show appA _ _ _ _ _ _=_
        simp only [evX,put,Nat.reduceEqDiff,if_true,if_false,ite_true,ite_false,reduceIte]
        exact hY1 _
       refine gc_op (v:=.ptr h1.b.length 4) rfl ⟨?_,trivial⟩ ?_
       ·simp [evX,put,astep,t9]
       refine gc_op (v:=.tup []) rfl ⟨?_,trivial⟩ ?_
       ·simp [evX,put,astep,storeA,hcell,setCells,A.cells,A.one]
       refine gc_nil ?_
       have hsetl:h1.b.length < (hh.b.set i (rdr q2.1)).length:=(List.getElem?_eq_some_iff.1 (hcell (rdr q2.1))).1
       show thenA _ _ .normal _ (⟨(hh.b.set i (rdr q2.1)).set h1.b.length (.cells 34 [.int .i64 q.2,.int .i64 0,.str [],X,.sl Wy1 oy1 (strsA ks++[[.str q2.2]])]),t'⟩:Hp)
       have g4:((hh.b.set i (rdr q2.1)).set h1.b.length (.cells 34 [.int .i64 q.2,.int .i64 0,.str [],X,.sl Wy1 oy1 (strsA ks++[[.str q2.2]])]))[hb.length]?=some (.cells 34 [.int .i64 0,.int .i64 0,.str [],.sl 0 .nil [],.sl 0 .nil []]):=by
        rw [List.getElem?_set,if_neg (Ne.symm hb4),List.getElem?_set,if_neg hib4]; exact g4
       have g9:((hh.b.set i (rdr q2.1)).set h1.b.length (.cells 34 [.int .i64 q.2,.int .i64 0,.str [],X,.sl Wy1 oy1 (strsA ks++[[.str q2.2]])]))[h1.b.length]?=some (.cells 34 [.int .i64 q.2,.int .i64 0,.str [],X,.sl Wy1 oy1 (strsA ks++[[.str q2.2]])]):=by
        rw [List.getElem?_set,if_pos rfl,if_pos hsetl]
       have gX:=Gs.keep (h':=⟨(hh.b.set i (rdr q2.1)).set h1.b.length (.cells 34 [.int .i64 q.2,.int .i64 0,.str [],X,.sl Wy1 oy1 (strsA ks++[[.str q2.2]])]),t'⟩) gX fun t n hz=>hY5 t _ _ _ (by decide) hz
       have gY:Gs 9 1 ht.length ⟨(hh.b.set i (rdr q2.1)).set h1.b.length (.cells 34 [.int .i64 q.2,.int .i64 0,.str [],X,.sl Wy1 oy1 (strsA ks++[[.str q2.2]])]),t'⟩ (strsA ks') (.sl Wy1 oy1 (strsA ks++[[.str q2.2]])):=by
        rw [hks',strsA_app]; exact hY2 _
       have htl:=hY4
       have hkl2:ks'.length≤j+1:=by rw [hks']; simp; omega
       have hp':RQ i q2.1 ⟨hb,ht⟩ ⟨(hh.b.set i (rdr q2.1)).set h1.b.length (.cells 34 [.int .i64 q.2,.int .i64 0,.str [],X,.sl Wy1 oy1 (strsA ks++[[.str q2.2]])]),t'⟩:=by
        refine ⟨?_,fun j y hj hy=>?_,fun t y hy=>?_⟩
        ·show (List.set _ _ _)[i]?=_
         rw [List.getElem?_set,if_neg (Ne.symm hil1)]; exact hp'.1
        ·have hjl:j < hb.length:=(List.getElem?_eq_some_iff.1 hy).1
         show (List.set _ _ _)[j]?=_
         rw [List.getElem?_set,if_neg (by omega)]; exact hp'.2.1 j y hj hy
        ·exact hY3 t y (List.getElem?_eq_some_iff.1 hy).1 (hp'.2.2 t y hy)
       have u0:=t0
       have u1:=t1
       refine go0 (ai t0 (ai t1 (ai t4 (ai t9 (ai t55 (ai t56 elv)))))) ?_
       refine gc0 (ai t0 (ai t1 (ai t4 (ai t9 (ai elv (ai u0 u1)))))) ?_
       refine (ih q2.1 i _ (by omega) hp'.1 (by omega)).mono ?_
       rintro v h3 ⟨⟨l3,rfl,hl3,ho3,hv3⟩,hp3⟩
       obtain ⟨x,hx⟩:∃ x,Val.read f q2.1=x:=⟨_,rfl⟩
       have hxl:=Val.read_le f q2.1
       rw [hx] at hit hv3 hp3 hxl ⊢
       obtain ⟨a0,a1,a2,a3,a4,rfl⟩:=list5 hl3
       have g4':=hp3.2.1 _ _ (Ne.symm hib4) g4
       have g9':=hp3.2.1 _ _ (Ne.symm hil1) g9
       have h4n:∀ y,(h3.b++[y])[hb.length]?=_:=fun y=>get_app7 g4'
       have h9n:∀ y,(h3.b++[y])[h1.b.length]?=_:=fun y=>get_app7 g9'
       have hl4:hb.length < h3.b.length:=(List.getElem?_eq_some_iff.1 g4').1
       have hl9:h1.b.length < h3.b.length:=(List.getElem?_eq_some_iff.1 g9').1
       have hs4:∀ y z,((h3.b++[y]).set hb.length z)[hb.length]?=some z:=fun y z=>by
        rw [List.getElem?_set,if_pos rfl,if_pos (by simp; omega)]
       simp only [List.all_cons,List.all_nil,Bool.and_true,Bool.and_eq_true] at ho3
       simp only [A.one] at ho3
       obtain ⟨o0,o1,o2,o3,o4⟩:=ho3
       by_cases hx0:x.2.1=0
       rotate_left
       ·have hx0':(x.2.1 != 0)=true:=by simp [hx0]
        rw [if_pos hx0] at hit
        have hRR:Val.read (f+1) r=(x.1,x.2.1,.mk q.2 0 [] is ks):=by rw [hR,hW,←hit]
        refine go0 (ai t0 (ai t1 (ai t4 (ai t9 (ai t55 (ai t56 (ai @set_new7 (ai hx0' (ai h4n (ai hs4 (ai o0 (ai o1 (ai o2 (ai o3 o4)))))))))))))) ?_
        rw [hRR]
        exact ⟨_,le_zero x.2.1,VR.err rfl hx0,RQ.set (h':=⟨h3.b++_,h3.t⟩) ⟨get_app7 (hp'.tr hp3).1,fun j x hj hx=>get_app7 ((hp'.tr hp3).2.1 j x hj hx),(hp'.tr hp3).2.2⟩ (Nat.le_refl _) hib4 _ _ rfl⟩
       ·have hx0':(x.2.1 != 0)=false:=by simp [hx0]
        rw [if_neg (by simp [hx0])] at hit
        have hv:=hv3 hx0
        obtain ⟨X',t'',hX1,hX2,hX3,hX4,hX5⟩:=(Gs.keep (h':=h3) gX fun t n hh=>hp3.2.2 _ _ hh).app (Nat.le_trans htl hp3.tlen) 80 x.2.2.cells (by rw [V.cellss_length]; omega) (by decide)
        rw [←hv] at hX1 hX2
        have hdd:=V.cells_data x.2.2
        rw [←hv] at hdd
        simp only [List.all_cons,List.all_nil,Bool.and_true,Bool.and_eq_true,A.data] at hdd
        obtain ⟨d0,d1,d2,d3,d4⟩:=hdd
        obtain ⟨Wx,ox,rfl⟩:=Gs.sl (hX2 [])
        have hdummy:=trivial
        refine go0 (ai t0 (ai t1 (ai t4 (ai t9 (ai t55 (ai t56 (ai @set_new7 (ai hx0' (ai h4n (ai h9n (ai hs4 (ai o0 (ai o1 (ai o2 (ai o3 (ai o4 (ai ei (ai d0 (ai d1 (ai d2 (ai d3 d4))))))))))))))))))))) ?_
        refine go_op (v:=.sl Wx ox (V.cellss is++[[a0,a1,a2,a3,a4]])) (h':=⟨h3.b++[.cells 34 [a0,a1,a2,a3,a4]],t''⟩) rfl ?_ ?_
        ·simp only [put_app,put_none,init_app,evX_t,evX_c,resA_nil,resA_t,resA_c,tupA_0,tupA_1,tupA_2,astep,bop,uop,loadA,storeA,ssliceA,eqA,eqCells,fillA,rowsA,setCells,A.cells,optP_some,List.all_cons,List.all_nil,Bool.and_true,Bool.true_and,Option.map_some,Option.map_none,Option.bind_some,Option.bind_none,Option.getD_some,Option.getD_none,List.map_cons,List.map_nil,List.getD_cons_zero,List.getD_cons_succ,List.getElem?_cons_zero,List.getElem?_cons_succ,List.length_cons,List.length_nil,List.nil_append,List.cons_append,List.append_nil,List.set_cons_zero,List.set_cons_succ,List.drop_zero,List.drop_succ_cons,List.take_succ_cons,List.take_zero,List.take_nil,List.length_append,List.length_set,Nat.reduceAdd,Nat.reduceSub,Nat.reduceMul,Nat.reduceLeDiff,Nat.reduceEqDiff,Nat.reduceBEq,Int.toNat_natCast,Int.natCast_nonneg,if_true,if_false,reduceIte,ite_true,ite_false,true_and,and_true,ne_eq,not_true_eq_false,not_false_eq_true,Bool.false_eq_true,reduceCtorEq,and_self,Nat.zero_add,Nat.add_zero,Nat.le_refl,Bool.not_true,Bool.not_false,decide_true,decide_false]
         exact hX1 _
        refine go0 (ai t0 (ai t1 (ai t4 (ai t9 (ai t55 (ai t56 (ai h9n ei))))))) ?_
        refine ⟨c0.2 - (j+1),by omega,j+1,x.1,is++[x.2.2],ks',.sl Wx ox (V.cellss is++[[a0,a1,a2,a3,a4]]),.sl Wy1 oy1 (strsA ks++[[.str q2.2]]),rfl,by omega,?_,?_,by omega,by simp; omega,by omega,?_,?_,?_,?_,hX4,?_⟩
        ·rw [show c0.2 - (j+1)=d by omega]; exact hit
        ·have hp3':=hp'.tr hp3
         refine ⟨?_,fun j y hj hy=>?_,fun t y hy=>?_⟩
         ·show (List.set _ _ _)[i]?=_
          rw [List.getElem?_set,if_neg (Ne.symm hil1)]; exact get_app7 hp3'.1
         ·have hjl:j < hb.length:=(List.getElem?_eq_some_iff.1 hy).1
          show (List.set _ _ _)[j]?=_
          rw [List.getElem?_set,if_neg (by omega)]; exact get_app7 (hp3'.2.1 j y hj hy)
         ·exact hX3 t y (List.getElem?_eq_some_iff.1 hy).1 (hp3'.2.2 t y hy)
        ·show (List.set _ _ _)[_]?=_
         rw [List.getElem?_set,if_neg (Ne.symm hb4)]; exact h4n _
        ·show (List.set _ _ _)[_]?=_
         rw [List.getElem?_set,if_pos rfl,if_pos (by simp; omega)]
        ·rw [cellss_app,←hv]; exact hX2 _
        ·exact Gs.keep (Gs.keep (h':=h3) gY fun t n hh=>hp3.2.2 _ _ hh) fun t n hh=>hX5 t _ _ _ (by decide) hh
        ·(exact inv0 (ai t0 (ai t1 (ai t4 (ai t9 (ai t55 (ai t56 ei)))))))
      ·rw [if_neg (by simp [e5'])] at hq2e
       have hp':RQ i q2.1 ⟨hb,ht⟩ hh:=by rw [hq2e]; exact hp
       have hpl':q2.1.rest.length≤p.rest.length:=by rw [hq2e]; exact Nat.le_refl _
       obtain ⟨ks',hks'⟩:∃ l,l=(if (q.2 == 5)=true then ks++[q2.2] else ks):=⟨_,rfl⟩
       rw [←hks'] at hit
       rw [if_neg (by simp [e5'])] at hks'
       rw [←hks'] at gY hkl2
       have u0:=t0
       have u1:=t1
       refine go0 (ai t0 (ai t1 (ai t4 (ai t9 (ai t55 (ai t56 (ai hlt2 (ai g9 (ai e5' elv))))))))) ?_
       refine gc0 (ai t0 (ai t1 (ai t4 (ai t9 (ai elv (ai u0 u1)))))) ?_
       refine (ih q2.1 i _ (by omega) hp'.1 (by omega)).mono ?_
       rintro v h3 ⟨⟨l3,rfl,hl3,ho3,hv3⟩,hp3⟩
       obtain ⟨x,hx⟩:∃ x,Val.read f q2.1=x:=⟨_,rfl⟩
       have hxl:=Val.read_le f q2.1
       rw [hx] at hit hv3 hp3 hxl ⊢
       obtain ⟨a0,a1,a2,a3,a4,rfl⟩:=list5 hl3
       have g4':=hp3.2.1 _ _ (Ne.symm hib4) g4
       have g9':=hp3.2.1 _ _ (Ne.symm hil1) g9
       have h4n:∀ y,(h3.b++[y])[hb.length]?=_:=fun y=>get_app7 g4'
       have h9n:∀ y,(h3.b++[y])[h1.b.length]?=_:=fun y=>get_app7 g9'
       have hl4:hb.length < h3.b.length:=(List.getElem?_eq_some_iff.1 g4').1
       have hl9:h1.b.length < h3.b.length:=(List.getElem?_eq_some_iff.1 g9').1
       have hs4:∀ y z,((h3.b++[y]).set hb.length z)[hb.length]?=some z:=fun y z=>by
        rw [List.getElem?_set,if_pos rfl,if_pos (by simp; omega)]
       simp only [List.all_cons,List.all_nil,Bool.and_true,Bool.and_eq_true] at ho3
       simp only [A.one] at ho3
       obtain ⟨o0,o1,o2,o3,o4⟩:=ho3
       by_cases hx0:x.2.1=0
       rotate_left
       ·have hx0':(x.2.1 != 0)=true:=by simp [hx0]
        rw [if_pos hx0] at hit
        have hRR:Val.read (f+1) r=(x.1,x.2.1,.mk q.2 0 [] is ks):=by rw [hR,hW,←hit]
        refine go0 (ai t0 (ai t1 (ai t4 (ai t9 (ai t55 (ai t56 (ai @set_new7 (ai hx0' (ai h4n (ai hs4 (ai o0 (ai o1 (ai o2 (ai o3 o4)))))))))))))) ?_
        rw [hRR]
        exact ⟨_,le_zero x.2.1,VR.err rfl hx0,RQ.set (h':=⟨h3.b++_,h3.t⟩) ⟨get_app7 (hp'.tr hp3).1,fun j x hj hx=>get_app7 ((hp'.tr hp3).2.1 j x hj hx),(hp'.tr hp3).2.2⟩ (Nat.le_refl _) hib4 _ _ rfl⟩
       ·have hx0':(x.2.1 != 0)=false:=by simp [hx0]
        rw [if_neg (by simp [hx0])] at hit
        have hv:=hv3 hx0
        obtain ⟨X',t'',hX1,hX2,hX3,hX4,hX5⟩:=(Gs.keep (h':=h3) gX fun t n hh=>hp3.2.2 _ _ hh).app (Nat.le_trans htl hp3.tlen) 80 x.2.2.cells (by rw [V.cellss_length]; omega) (by decide)
        rw [←hv] at hX1 hX2
        have hdd:=V.cells_data x.2.2
        rw [←hv] at hdd
        simp only [List.all_cons,List.all_nil,Bool.and_true,Bool.and_eq_true,A.data] at hdd
        obtain ⟨d0,d1,d2,d3,d4⟩:=hdd
        obtain ⟨Wx,ox,rfl⟩:=Gs.sl (hX2 [])
        obtain ⟨Wy,oy,rfl⟩:=Gs.sl gY
        refine go0 (ai t0 (ai t1 (ai t4 (ai t9 (ai t55 (ai t56 (ai @set_new7 (ai hx0' (ai h4n (ai h9n (ai hs4 (ai o0 (ai o1 (ai o2 (ai o3 (ai o4 (ai ei (ai d0 (ai d1 (ai d2 (ai d3 d4))))))))))))))))))))) ?_
        refine go_op (v:=.sl Wx ox (V.cellss is++[[a0,a1,a2,a3,a4]])) (h':=⟨h3.b++[.cells 34 [a0,a1,a2,a3,a4]],t''⟩) rfl ?_ ?_
        ·simp only [put_app,put_none,init_app,evX_t,evX_c,resA_nil,resA_t,resA_c,tupA_0,tupA_1,tupA_2,astep,bop,uop,loadA,storeA,ssliceA,eqA,eqCells,fillA,rowsA,setCells,A.cells,optP_some,List.all_cons,List.all_nil,Bool.and_true,Bool.true_and,Option.map_some,Option.map_none,Option.bind_some,Option.bind_none,Option.getD_some,Option.getD_none,List.map_cons,List.map_nil,List.getD_cons_zero,List.getD_cons_succ,List.getElem?_cons_zero,List.getElem?_cons_succ,List.length_cons,List.length_nil,List.nil_append,List.cons_append,List.append_nil,List.set_cons_zero,List.set_cons_succ,List.drop_zero,List.drop_succ_cons,List.take_succ_cons,List.take_zero,List.take_nil,List.length_append,List.length_set,Nat.reduceAdd,Nat.reduceSub,Nat.reduceMul,Nat.reduceLeDiff,Nat.reduceEqDiff,Nat.reduceBEq,Int.toNat_natCast,Int.natCast_nonneg,if_true,if_false,reduceIte,ite_true,ite_false,true_and,and_true,ne_eq,not_true_eq_false,not_false_eq_true,Bool.false_eq_true,reduceCtorEq,and_self,Nat.zero_add,Nat.add_zero,Nat.le_refl,Bool.not_true,Bool.not_false,decide_true,decide_false]
         exact hX1 _
        refine go0 (ai t0 (ai t1 (ai t4 (ai t9 (ai t55 (ai t56 (ai h9n ei))))))) ?_
        refine ⟨c0.2 - (j+1),by omega,j+1,x.1,is++[x.2.2],ks',.sl Wx ox (V.cellss is++[[a0,a1,a2,a3,a4]]),.sl Wy oy (strsA ks'),rfl,by omega,?_,?_,by omega,by simp; omega,by omega,?_,?_,?_,?_,hX4,?_⟩
        ·rw [show c0.2 - (j+1)=d by omega]; exact hit
        ·have hp3':=hp'.tr hp3
         refine ⟨?_,fun j y hj hy=>?_,fun t y hy=>?_⟩
         ·show (List.set _ _ _)[i]?=_
          rw [List.getElem?_set,if_neg (Ne.symm hil1)]; exact get_app7 hp3'.1
         ·have hjl:j < hb.length:=(List.getElem?_eq_some_iff.1 hy).1
          show (List.set _ _ _)[j]?=_
          rw [List.getElem?_set,if_neg (by omega)]; exact get_app7 (hp3'.2.1 j y hj hy)
         ·exact hX3 t y (List.getElem?_eq_some_iff.1 hy).1 (hp3'.2.2 t y hy)
        ·show (List.set _ _ _)[_]?=_
         rw [List.getElem?_set,if_neg (Ne.symm hb4)]; exact h4n _
        ·show (List.set _ _ _)[_]?=_
         rw [List.getElem?_set,if_pos rfl,if_pos (by simp; omega)]
        ·rw [cellss_app,←hv]; exact hX2 _
        ·exact Gs.keep (Gs.keep (h':=h3) gY fun t n hh=>hp3.2.2 _ _ hh) fun t n hh=>hX5 t _ _ _ (by decide) hh
        ·(exact inv0 (ai t0 (ai t1 (ai t4 (ai t9 (ai t55 (ai t56 ei)))))))
     ·have hlt2:¬ (j:Int) < (c0.2:Int):=by omega
      rw [show c0.2 - j=0 by omega,Val.itemsW] at hit
      refine go0 (ai t0 (ai t1 (ai t4 (ai t9 (ai t55 (ai t56 hlt2)))))) ?_
      exact leaf _ _ p 0 [] is ks X Y (by (exact ev0 t0)) (by (exact ev0 t4)) (by (exact ev0 t9)) hp g4 g9 (Gs.one gX) (Gs.one gY) (by rw [hR,hW,←hit]) (Gs.le gX) (Gs.le gY)
  rw [if_neg hk45] at hW
  have e4:(q.2 == 4)=false:=by simp; omega
  have e5:(q.2 == 5)=false:=by simp; omega
  have g9:(h1.b++[(.cells 34 [.int .i64 q.2,.int .i64 0,.str [],.sl 0 .nil [],.sl 0 .nil []]:Blk)])[h1.b.length]?=some (.cells 34 [.int .i64 q.2,.int .i64 0,.str [],.sl 0 .nil [],.sl 0 .nil []]):=List.getElem?_concat_length
  refine go0 (ai he'' (ai hk0 (ai hk6 (ai @set_new7 (ai e1 (ai e2 (ai e3 (ai e4 e5)))))))) ?_
  exact leaf _ _ q.1 0 [] [] [] _ _ (by (exact ev0 ti)) (by (exact ev0 ti)) (by (exact ev0 ti)) ⟨get_app7 hq1.1,fun j x hj hx=>get_app7 (hq1.2.1 j x hj hx),hq1.2.2⟩ (get_app7 hz1) g9 rfl rfl (by rw [hR,hW,hqe]) hnilX hnilY
end AX
theorem Wire.strR_len (r:Wire.St):(Wire.strR r).2.length≤r.rest.length:=by
 have:=Wire.cntR_rest r 1
 unfold Wire.strR
 dsimp only
 split
 ·simp
 ·simp; omega
theorem V.lensS_of:∀ {l:List V},(∀ x∈l,x.lens)→V.lensS l
 | [],_=>by unfold V.lensS; trivial
 | v::l,h=>by
  unfold V.lensS
  exact ⟨h v (by simp),V.lensS_of fun x hx=>h x (by simp [hx])⟩
theorem V.lens_of {k n:Int} {s:List UInt8} {is:List V} {ks:List (List UInt8)} (h1:is.length≤1000000000) (h2:ks.length≤1000000000) (h3:s.length≤1000000000) (h4:∀ q∈ks,q.length≤1000000000) (h5:∀ x∈is,x.lens):(V.mk k n s is ks).lens:=by
 unfold V.lens
 simp only [maxLen]
 exact ⟨by omega,by omega,by omega,fun q hq=>by have:=h4 q hq; omega,V.lensS_of h5⟩
namespace Val
theorem itemsW_lens {one:Wire.St→Res} (h1:∀ r,r.rest.length≤100000000→(one r).2.2.lens) (hle:∀ r,(one r).1.rest.length≤r.rest.length) (m:Bool):∀ (c:Nat) (r:Wire.St) (is:List V) (ks:List (List UInt8)),r.rest.length≤100000000→(∀ x∈is,x.lens)→(∀ k∈ks,k.length≤1000000000) →
  (∀ x∈(itemsW one m c r is ks).2.2.1,x.lens)∧(∀ k∈(itemsW one m c r is ks).2.2.2,k.length≤1000000000)∧(itemsW one m c r is ks).2.2.1.length≤is.length+c∧(itemsW one m c r is ks).2.2.2.length≤ks.length+c
 | 0,r,is,ks,hr,hi,hk=>by rw [itemsW]; exact ⟨hi,hk,Nat.le_refl _,Nat.le_refl _⟩
 | c+1,r,is,ks,hr,hi,hk=>by
  obtain ⟨q,hqe⟩:∃ q,q=if m then Wire.strR r else (r,[]):=⟨_,rfl⟩
  have hq:q.1.rest.length≤r.rest.length∧q.2.length≤r.rest.length:=by
   rw [hqe]
   split
   ·exact ⟨Wire.strR_rest r,Wire.strR_len r⟩
   ·exact ⟨Nat.le_refl _,by simp⟩
  rw [itemsW_step one m c r is ks q hqe]
  have h2:=hle q.1
  split
  ·exact ⟨hi,hk,by simp,by simp⟩
  ·have ih:=itemsW_lens h1 hle m c (one q.1).1 (is++[(one q.1).2.2]) (if m then ks++[q.2] else ks) (by omega) (fun x hx=>by
    rcases List.mem_append.1 hx with hx | hx
    ·exact hi x hx
    ·rw [List.mem_singleton.1 hx]; exact h1 _ (by omega)) (fun k hkk=>by
    split at hkk
    ·rcases List.mem_append.1 hkk with hkk | hkk
     ·exact hk k hkk
     ·rw [List.mem_singleton.1 hkk]; omega
    ·exact hk k hkk)
   refine ⟨ih.1,ih.2.1,?_,?_⟩
   ·have:=ih.2.2.1
    simp only [List.length_append,List.length_cons,List.length_nil] at this
    omega
   ·have:=ih.2.2.2
    have hl:(if m then ks++[q.2] else ks).length≤ks.length+1:=by split <;> simp
    omega
theorem zero_lens:zeroV.lens:=V.lens_of (by simp) (by simp) (by simp) (by simp) (by simp)
theorem read_lens:∀ (f:Nat) (r:Wire.St),r.rest.length≤100000000→(read f r).2.2.lens
 | 0,r,hr=>by rw [read]; exact zero_lens
 | f+1,r,hr=>by
  have ih:=read_lens f
  have hn:=Wire.numR_rest r
  have hs2:=Wire.strR_len (Wire.numR r).1
  have hc2:=Wire.cntR_rest (Wire.numR r).1 1
  have hc3:=Wire.cntR_cnt (Wire.numR r).1
  have hi2:=itemsW_lens ih (read_le f) ((Wire.numR r).2 == 5) (Wire.cntR (Wire.numR r).1 1).2 (Wire.cntR (Wire.numR r).1 1).1 [] [] (by omega) (by simp) (by simp)
  simp only [List.length_nil] at hi2
  rw [read]
  unfold readW
  dsimp only
  split
  ·exact zero_lens
  ·split
   ·exact zero_lens
   ·split
    ·exact zero_lens
    ·split
     ·exact V.lens_of (by simp) (by simp) (by simp) (by simp) (by simp)
     ·split
      ·exact V.lens_of (by simp) (by simp) (by omega) (by simp) (by simp)
      ·split
       ·exact V.lens_of (by omega) (by omega) (by simp) hi2.2.1 hi2.1
       ·exact V.lens_of (by simp) (by simp) (by simp) (by simp) (by simp)
end Val
namespace AX
def c_ReadValue:AX.AFn:=⟨20,aS [aR 2 (.alloc 34 [.int .i64 0,.int .i64 0,.str [],.sl 0 .nil [],.sl 0 .nil []]),aR 3 (.mv (aI 0))] (aS [aM 7 0,aR 8 (.call 186 [.t 7,aI 1]),aM 6 8,aE 9 6 0,aE 10 6 1,aR 4 (.alloc 34 [.int .i64 0,.int .i64 0,.str [],.sl 0 .nil [],.sl 0 .nil []]),aU (.store 5 (.t 4) (.t 9)),aM 5 10] (.seq (aS [aM 11 5,aR 12 (.bin .eql (.t 11) (aI 0))] (.cond (.t 12) (.reg false [aR 13 (.load true 5 (.t 4)),aR 14 (.call 97 [.t 13]),aM 5 14]) (.skip))) (.seq (aS [aM 15 5,aR 16 (.bin .neq (.t 15) (aI 0))] (.cond (.t 16) (aS [aR 17 (.build [.int .i64 0,.int .i64 0,.str [],.sl 0 .nil [],.sl 0 .nil []] []),aM 18 5,aU (.store 5 (.t 2) (.t 17)),aM 3 18] (.ret)) (.skip))) (aS [aR 19 (.load true 5 (.t 4)),aU (.store 5 (.t 2) (.t 19)),aR 3 (.mv (aI 0))] (.ret))))),[.c 2 true 5,.t 3]⟩
theorem h_ReadValue:AX.compFn Tryz.prog 152=some c_ReadValue:=by kernel_rfl
theorem a_ReadValue (r:Wire.St) (i:Nat) (h:Hp) (hbi:h.b[i]?=some (rdr r)) (hlen:r.rest.length≤100000000):ACall Tryz.prog GT 152 [.ptr i 0] h fun v h'=>v = .tup [(Val.readValue r).2.2.A,.int .i64 (Val.readValue r).2.1]∧RQ i (Val.readValue r).1 h h':=by
 obtain ⟨hb,ht⟩:=h
 refine acall_of mixedT h_ReadValue (by simp [c_ReadValue]) ?_
 dsimp only [c_ReadValue]
 have hil:i < hb.length:=(List.getElem?_eq_some_iff.1 hbi).1
 have hR:Val.readValue r=if (Val.read 32 r).2.1≠0 then ((Val.read 32 r).1,(Val.read 32 r).2.1,Val.zeroV) else if Val.checkZ (Val.read 32 r).2.2≠0 then ((Val.read 32 r).1,Val.checkZ (Val.read 32 r).2.2,Val.zeroV) else Val.read 32 r:=by rw [Val.readValue]
 have hlens:=Val.read_lens 32 r hlen
 refine go0 ti ?_
 refine gc0 ti ?_
 refine (t_read 32 r i _ (Nat.le_refl _) (get_app7 hbi) hlen).mono ?_
 rintro v h1 ⟨⟨l3,rfl,hl3,ho3,hv3⟩,hp⟩
 obtain ⟨x,hx⟩:∃ x,Val.read 32 r=x:=⟨_,rfl⟩
 rw [hx] at hR hv3 hp hlens ⊢
 obtain ⟨a0,a1,a2,a3,a4,rfl⟩:=list5 hl3
 have g2:h1.b[hb.length]?=some (.cells 34 [.int .i64 0,.int .i64 0,.str [],.sl 0 .nil [],.sl 0 .nil []]):=hp.2.1 _ _ (by omega) List.getElem?_concat_length
 have hl2:hb.length < h1.b.length:=(List.getElem?_eq_some_iff.1 g2).1
 have hib:i≠hb.length:=by omega
 have h2n:∀ y,(h1.b++[y])[hb.length]?=_:=fun y=>get_app7 g2
 have hs2:∀ y z,((h1.b++[y]).set hb.length z)[hb.length]?=some z:=fun y z=>by
  rw [List.getElem?_set,if_pos rfl,if_pos (by simp; omega)]
 have hout:∀ y z,RQ i x.1 ⟨hb,ht⟩ ⟨(h1.b++[y]).set hb.length z,h1.t⟩:=fun y z =>
  RQ.set (h:=⟨hb,ht⟩) (h':=⟨h1.b++[y],h1.t⟩) ⟨get_app7 hp.1,fun j w hj hw=>get_app7 (hp.2.1 j w hj (get_app7 hw)),hp.2.2⟩ (Nat.le_refl _) hib _ _ rfl
 simp only [List.all_cons,List.all_nil,Bool.and_true,Bool.and_eq_true,A.one] at ho3
 obtain ⟨o0,o1,o2,o3,o4⟩:=ho3
 by_cases hx0:x.2.1=0
 rotate_left
 ·have e1:(x.2.1 == 0)=false:=by simp [hx0]
  have e2:(x.2.1 != 0)=true:=by simp [hx0]
  rw [if_pos hx0] at hR
  refine go0 (ai @set_new7 (ai o0 (ai o1 (ai o2 (ai o3 (ai o4 (ai e1 (ai e2 (ai h2n hs2))))))))) ?_
  rw [hR]
  exact ⟨_,le_zero x.2.1,rfl,hout _ _⟩
 have e1:(x.2.1 == 0)=true:=by simp [hx0]
 rw [if_neg (by simp [hx0])] at hR
 have hv:=hv3 hx0
 refine go0 (ai @set_new7 (ai o0 (ai o1 (ai o2 (ai o3 (ai o4 (ai e1 (ai h2n hs2)))))))) ?_
 refine gc0 @set_new7 ?_
 have hck:=fun h=>a_vCheck x.2.2 hlens h
 rw [V.A,←hv] at hck
 refine (hck _).mono ?_
 rintro v h2 ⟨rfl,rfl⟩
 by_cases hz:Val.checkZ x.2.2=0
 ·rw [if_neg (by simp [hz])] at hR
  have e2:(Val.checkZ x.2.2 != 0)=false:=by simp [hz]
  refine go0 (ai @set_new7 (ai o0 (ai o1 (ai o2 (ai o3 (ai o4 (ai e2 (ai h2n hs2)))))))) ?_
  rw [hR]
  refine ⟨_,le_refl _,?_,hout _ _⟩
  rw [tupA_2,V.A,←hv,hx0]
 ·rw [if_pos hz] at hR
  have e2:(Val.checkZ x.2.2 != 0)=true:=by simp [hz]
  refine go0 (ai @set_new7 (ai o0 (ai o1 (ai o2 (ai o3 (ai o4 (ai e2 (ai h2n hs2)))))))) ?_
  rw [hR]
  exact ⟨_,le_zero (Val.checkZ x.2.2),rfl,hout _ _⟩
def c_newReader:AX.AFn:=⟨7,aS [aR 2 (.mv (.c (.nilp)))] (aS [aM 3 0,aR 4 (.build [.str [],.int .i64 0,.bool false] [(0,1,.t 3),(2,1,.c (.bool true))]),aR 5 (.build [.str [],.int .i64 0,.bool false] [(0,3,.t 4)]),aR 6 (.box 164 (.t 5)),aM 2 6] (.ret)),[.t 2]⟩
theorem h_newReader:AX.compFn Tryz.prog 75=some c_newReader:=by kernel_rfl
theorem a_newReader (l:List UInt8) (h:Hp):ACall Tryz.prog GT 75 [.str l] h fun v h'=>v = .ptr h.b.length 0∧h'=⟨h.b++[rdr ⟨l,0⟩],h.t⟩:=by
 refine acall_of mixedT h_newReader (by simp [c_newReader]) ?_
 dsimp only [c_newReader]
 refine go0 ti ?_
 exact ⟨_,le_refl _,rfl,rfl⟩
theorem rdr_loc (r:Wire.St):(rdr r).loc 0:=rfl
theorem a_readValue1 {h:Hp} {i:Nat} {r:Wire.St} (hb:h.b[i]?=some (rdr r)) (hlen:r.rest.length≤100000000):ACall Tryz.prog GT 152 [.ptr i 0] h fun v h'=>v = .tup [(Val.readValue r).2.2.A,.int .i64 (Val.readValue r).2.1]∧h'=⟨h.b.set i (rdr (Val.readValue r).1),h.t⟩:=by
 have h1:ACall Tryz.prog GT 152 [.ptr 0 0] ⟨[rdr r],[]⟩ fun v h'=>∃ b',h'.b[0]?=some b'∧v = .tup [(Val.readValue r).2.2.A,.int .i64 (Val.readValue r).2.1]∧b'=rdr (Val.readValue r).1:=
  (a_ReadValue r 0 ⟨[rdr r],[]⟩ rfl hlen).mono fun v h' ⟨e,hp⟩=>⟨_,hp.1,e,rfl⟩
 refine (ACall.lift1 h1 rfl (rdr_loc r) ?_ hb).mono ?_
 ·rintro v b' ⟨rfl,rfl⟩
  refine ⟨?_,rdr_loc _⟩
  obtain ⟨k,n,s,is,ks⟩:=(Val.readValue r).2.2
  rfl
 ·rintro v h' ⟨b',⟨rfl,rfl⟩,rfl⟩
  exact ⟨rfl,rfl⟩
theorem readValue_lens (r:Wire.St) (hlen:r.rest.length≤100000000):(Val.readValue r).2.2.lens:=by
 unfold Val.readValue
 dsimp only
 split
 ·exact Val.zero_lens
 ·split
  ·exact Val.zero_lens
  ·exact Val.read_lens 32 r hlen
end AX
namespace Wire
end Wire
namespace Val
end Val
namespace AX
theorem Gs.grow {E:TypeId} {W:Nat} {t:List (TypeId×Nat×Nat)} {W1:Nat} {o1:Own} {rows:List (List A)} (hg:Gs E W 0 ⟨[],t⟩ rows (.sl W1 o1 rows)) (bytes:Nat) (y:List A) (h1:rows.length+1≤1000000000) (h2:bytes≤1000) :
  ∃ W' o' t',(∀ b,appA ⟨b,t⟩ E W bytes (.sl W1 o1 rows) (.sl W .no [y])=some (.sl W' o' (rows++[y]),⟨b,t'⟩))∧Gs E W 0 ⟨[],t'⟩ (rows++[y]) (.sl W' o' (rows++[y]))∧(∀ (E':TypeId) (W':Nat) (rows':List (List A)) (x'':A),E'≠E→Gs E' W' 0 ⟨[],t⟩ rows' x''→Gs E' W' 0 ⟨[],t'⟩ rows' x''):=by
 obtain ⟨x',t',k1,k2,k3,k4,k5⟩:=hg.app (Nat.zero_le _) bytes y h1 h2
 obtain ⟨W',o',rfl⟩:=(k2 []).sl
 exact ⟨W',o',t',k1,k2 [],fun E' W' rows' x'' hne hg'=>Gs.keep hg' fun k n hh=>k5 k _ _ _ hne hh⟩
end AX
end Go.Proofs.YtahmpiioegemaaaGreatDoor

namespace Go.Proofs.YtahmpiioegemaaaGreatDoor
namespace Sf
structure Rs where
 r:Wire.St
 bad:Bool
def Rs.fails (s:Rs):Bool:=s.bad||s.r.e != 0
def numS (s:Rs):Rs×Int:=(⟨(Wire.numR s.r).1,s.bad⟩,(Wire.numR s.r).2)
def strS (s:Rs):Rs×List UInt8:=(⟨(Wire.strR s.r).1,s.bad⟩,(Wire.strR s.r).2)
def cntS (s:Rs):Rs×Nat:=(⟨(Wire.cntR s.r 1).1,s.bad⟩,(Wire.cntR s.r 1).2)
def flagS (s:Rs):Rs×Bool:=
 let q:=Wire.numR s.r
 (⟨q.1,s.bad||(q.2 != 0&&q.2 != 1)⟩,q.2 == 1)
def valueS (s:Rs):Rs×V:=
 let x:=Val.readValue s.r
 (⟨x.1,s.bad||x.2.1 != 0⟩,x.2.2)
def wordsS:Nat→Rs→List (List UInt8)→Rs×List (List UInt8)
 | 0,s,l=>(s,l)
 | c+1,s,l=>wordsS c (strS s).1 (l++[(strS s).2])
def instS (ver:Int) (s:Rs):Rs×Inst:=
 let a:=strS s
 let b:=strS a.1
 let c:=strS b.1
 let d:=strS c.1
 let v:=valueS d.1
 let n:=numS v.1
 let t:=flagS n.1
 let f:=if ver=2 then flagS t.1 else (t.1,false)
 let k:=cntS f.1
 let w:=wordsS k.2 k.1 []
 (w.1,⟨a.2,b.2,c.2,d.2,v.2,n.2,t.2,f.2,w.2⟩)
def pendS (s:Rs):Rs×Pend:=
 let a:=strS s
 let b:=strS a.1
 let c:=strS b.1
 (c.1,⟨a.2,b.2,c.2⟩)
def outS (s:Rs):Rs×Outp:=
 let a:=strS s
 let v:=valueS a.1
 let f:=flagS v.1
 (f.1,⟨a.2,v.2,f.2⟩)
def instsS (ver:Int):Nat→Rs→List Inst→Rs×List Inst×Bool
 | 0,s,l=>(s,l,true)
 | c+1,s,l=>if s.fails then (s,l,false) else instsS ver c (instS ver s).1 (l++[(instS ver s).2])
def pendsS:Nat→Rs→List Pend→Rs×List Pend
 | 0,s,l=>(s,l)
 | c+1,s,l=>pendsS c (pendS s).1 (l++[(pendS s).2])
def outsS:Nat→Rs→List Outp→Rs×List Outp×Bool
 | 0,s,l=>(s,l,true)
 | c+1,s,l=>if s.fails then (s,l,false) else outsS c (outS s).1 (l++[(outS s).2])
def stateS (ver:Int) (s:Rs):Rs×St:=
 let a:=strS s
 let n:=numS a.1
 let ci:=cntS n.1
 let i:=instsS ver ci.2 ci.1 []
 if i.2.2=false then (i.1,⟨a.2,n.2,i.2.1,[],[]⟩)
 else
  let p:=if ver=2 then pendsS (cntS i.1).2 (cntS i.1).1 [] else (i.1,[])
  let co:=cntS p.1
  let o:=outsS co.2 co.1 []
  (o.1,⟨a.2,n.2,i.2.1,p.2,o.2.1⟩)
end Sf
end Go.Proofs.YtahmpiioegemaaaGreatDoor

namespace Go.Proofs.YtahmpiioegemaaaGreatDoor
open Go.RowKit
namespace Sf
def Inst.cells:Inst→List AX.A
 | ⟨a,d,i,t,.mk k n s is ks,v,tn,fi,ds⟩=>[.str a,.str d,.str i,.str t,.int .i64 k,.int .i64 n,.str s,.sl 5 .no (V.cellss is),.sl 1 .no (strsA ks),.int .i64 v,.bool tn,.bool fi,.sl 1 .no (strsA ds)]
def Pend.cells (p:Pend):List AX.A:=[.str p.addr,.str p.typ,.str p.tok]
def Outp.cells:Outp→List AX.A
 | ⟨m,.mk k n s is ks,b⟩=>[.str m,.int .i64 k,.int .i64 n,.str s,.sl 5 .no (V.cellss is),.sl 1 .no (strsA ks),.bool b]
def St.A (s:St):AX.A:=.agg [.str s.lin,.int .i64 s.ser,.sl 13 .no (s.insts.map Inst.cells),.sl 3 .no (s.pends.map Pend.cells),.sl 7 .no (s.outs.map Outp.cells)]
end Sf
namespace Val
theorem readValue_le (r:Wire.St):(readValue r).1.rest.length≤r.rest.length:=by
 have:=read_le 32 r
 unfold readValue
 dsimp only
 split
 ·exact this
 ·split <;> exact this
end Val
namespace Sf
theorem strS_le (s:Rs):(strS s).1.r.rest.length≤s.r.rest.length:=Wire.strR_rest _
theorem numS_le (s:Rs):(numS s).1.r.rest.length≤s.r.rest.length:=Wire.numR_rest _
theorem cntS_le (s:Rs):(cntS s).1.r.rest.length≤s.r.rest.length:=Wire.cntR_rest _ _
theorem cntS_cnt (s:Rs):(cntS s).2≤s.r.rest.length:=Wire.cntR_cnt _
theorem flagS_le (s:Rs):(flagS s).1.r.rest.length≤s.r.rest.length:=Wire.numR_rest _
theorem valueS_le (s:Rs):(valueS s).1.r.rest.length≤s.r.rest.length:=Val.readValue_le _
theorem wordsS_le:∀ (c:Nat) (s:Rs) (l:List (List UInt8)),(wordsS c s l).1.r.rest.length≤s.r.rest.length
 | 0,s,l=>Nat.le_refl _
 | c+1,s,l=>Nat.le_trans (wordsS_le c _ _) (strS_le s)
end Sf
namespace AX
def RB (ver:Int) (bad:Bool):Blk:=.cells 209 [.ptr 1 0,.int .i64 ver,.bool bad]
theorem liftR {P:Program} {G:World→Prop} {f:FuncId} {args:List A} {ver:Int} {s s':Sf.Rs} {v:A} (hc:ACall P G f (.ptr 0 0::args) ⟨[RB ver s.bad,rdr s.r],[]⟩ fun v' h'=>v'=v∧h'.b[0]?=some (RB ver s'.bad)∧h'.b[1]?=some (rdr s'.r)) (ha:A.locL 0 args=true) (hv:v.loc 0=true) (l:List Blk) (t:List (TypeId×Nat×Nat)) :
  ACall P G f (.ptr 0 0::args) ⟨RB ver s.bad::rdr s.r::l,t⟩ fun v' h'=>v'=v∧h'=⟨RB ver s'.bad::rdr s'.r::l,t⟩:=by
 have key:=ACall.lift hc (fun i=>i) (fun a b _ _ e=>e) (by unfold A.locL; rw [(A.locL0 _ args ha).1]; rfl)
  (fun x hx=>by
   rcases List.mem_cons.1 hx with rfl | hx
   ·rfl
   ·rw [List.mem_singleton.1 hx]; rfl)
  (fun v' h' ⟨e,h0,h1⟩=>⟨by rw [e]; exact (A.loc0 _ v hv).1,fun j x hj hx=>by
   have:j=0∨j=1:=by simp only [List.length_cons,List.length_nil] at hj; omega
   rcases this with rfl | rfl
   ·rw [h0] at hx; injection hx with hx; subst hx; rfl
   ·rw [h1] at hx; injection hx with hx; subst hx; rfl⟩)
  (h:=⟨RB ver s.bad::rdr s.r::l,t⟩) (fun j hj=>by
   have:j=0∨j=1:=by simp only [List.length_cons,List.length_nil] at hj; omega
   rcases this with rfl | rfl <;> rfl)
 have e:A.renL (fun i=>i) (.ptr 0 0::args) = .ptr 0 0::args:=by unfold A.renL; rw [(A.locL0 0 args ha).2]; rfl
 rw [e] at key
 refine key.mono ?_
 rintro v' h' ⟨v0,⟨b0,t0⟩,⟨rfl,h0,h1⟩,rfl,rfl⟩
 refine ⟨(A.loc0 0 _ hv).2 _,?_⟩
 match b0,h0,h1 with
 | x::y::b,h0,h1 =>
  simp only [List.getElem?_cons_zero,List.getElem?_cons_succ,Option.some.injEq] at h0 h1
  subst h0; subst h1
  rfl
def c_rflag:AX.AFn:=⟨26,aS [aR 2 (.mv (.c (.bool false)))] (aS [aM 4 0,aR 5 (.nilck (.t 4)),aF 6 0 5,aL 7 6,aR 8 (.call 116 [.t 7]),aM 3 8] (aS [aM 9 0,aM 10 0,aR 11 (.nilck (.t 10)),aF 12 2 11,aL 13 12,aM 14 13,aG 15 (.mv (.t 3)) 14 false,aG 16 (.bin .neq (.t 15) (aI 0)) 14 false,aG 17 (.mv (.t 16)) 14 false,aG 18 (.mv (.t 3)) 17 true,aG 19 (.bin .neq (.t 18) (aI 1)) 17 true,aG 20 (.pick (.t 17) (.t 19) (.c (.bool false))) 14 false,aR 21 (.pick (.t 14) (.c (.bool true)) (.t 20)),aR 22 (.nilck (.t 9)),aF 23 2 22,aU (.store 1 (.t 23) (.t 21))] (aS [aM 24 3,aR 25 (.bin .eql (.t 24) (aI 1)),aM 2 25] (.ret)))),[.t 2]⟩
theorem h_rflag:AX.compFn Tryz.prog 185=some c_rflag:=by kernel_rfl
def c_rvalue:AX.AFn:=⟨25,aS [aR 2 (.alloc 34 [.int .i64 0,.int .i64 0,.str [],.sl 0 .nil [],.sl 0 .nil []])] (aS [aM 6 0,aR 7 (.nilck (.t 6)),aF 8 0 7,aL 9 8,aR 10 (.call 152 [.t 9]),aM 5 10,aE 11 5 0,aE 12 5 1,aR 3 (.alloc 34 [.int .i64 0,.int .i64 0,.str [],.sl 0 .nil [],.sl 0 .nil []]),aU (.store 5 (.t 3) (.t 11)),aM 4 12] (aS [aM 13 0,aM 14 0,aR 15 (.nilck (.t 14)),aF 16 2 15,aL 17 16,aM 18 17,aG 19 (.mv (.t 4)) 18 false,aG 20 (.bin .neq (.t 19) (aI 0)) 18 false,aR 21 (.pick (.t 18) (.c (.bool true)) (.t 20)),aR 22 (.nilck (.t 13)),aF 23 2 22,aU (.store 1 (.t 23) (.t 21))] (aS [aR 24 (.load true 5 (.t 3)),aU (.store 5 (.t 2) (.t 24))] (.ret)))),[.c 2 true 5]⟩
theorem h_rvalue:AX.compFn Tryz.prog 184=some c_rvalue:=by kernel_rfl
def c_rfails:AX.AFn:=⟨15,aS [aR 2 (.mv (.c (.bool false)))] (aS [aM 3 0,aR 4 (.nilck (.t 3)),aF 5 2 4,aL 6 5,aM 7 6,aG 8 (.mv (.t 0)) 7 false,aG 9 (.nilck (.t 8)) 7 false,aG 10 (.faddr 0 (.t 9)) 7 false,aG 11 (.load false 1 (.t 10)) 7 false,aG 12 (.call 78 [.t 11]) 7 false,aG 13 (.bin .neq (.t 12) (aI 0)) 7 false,aR 14 (.pick (.t 7) (.c (.bool true)) (.t 13)),aM 2 14] (.ret)),[.t 2]⟩
theorem h_rfails:AX.compFn Tryz.prog 151=some c_rfails:=by kernel_rfl
def c_rinst:AX.AFn:=⟨64,aS [aR 2 (.alloc 36 [.str [],.str [],.str [],.str [],.int .i64 0,.int .i64 0,.str [],.sl 0 .nil [],.sl 0 .nil [],.int .i64 0,.bool false,.bool false,.sl 0 .nil []])] (.seq (.reg true [aM 4 0,⟨some 5,.nilck (.t 4),none,[0]⟩,⟨some 6,.faddr 0 (.t 5),none,[1]⟩,⟨some 7,.load false 1 (.t 6),none,[2]⟩,⟨some 8,.call 76 [.t 7],none,[3]⟩,aM 9 0,⟨some 10,.nilck (.t 9),none,[5]⟩,⟨some 11,.faddr 0 (.t 10),none,[6]⟩,⟨some 12,.load false 1 (.t 11),none,[7]⟩,⟨some 13,.call 76 [.t 12],none,[8,4]⟩,aM 14 0,⟨some 15,.nilck (.t 14),none,[10]⟩,⟨some 16,.faddr 0 (.t 15),none,[11]⟩,⟨some 17,.load false 1 (.t 16),none,[12]⟩,⟨some 18,.call 76 [.t 17],none,[13,9]⟩,aM 19 0,⟨some 20,.nilck (.t 19),none,[15]⟩,⟨some 21,.faddr 0 (.t 20),none,[16]⟩,⟨some 22,.load false 1 (.t 21),none,[17]⟩,⟨some 23,.call 76 [.t 22],none,[18,14]⟩,⟨some 24,.build [.str [],.str [],.str [],.str [],.int .i64 0,.int .i64 0,.str [],.sl 0 .nil [],.sl 0 .nil [],.int .i64 0,.bool false,.bool false,.sl 0 .nil []] [(0,1,.t 8),(1,1,.t 13),(2,1,.t 18),(3,1,.t 23)],none,[4,9,14,19]⟩,aR 3 (.alloc 36 [.str [],.str [],.str [],.str [],.int .i64 0,.int .i64 0,.str [],.sl 0 .nil [],.sl 0 .nil [],.int .i64 0,.bool false,.bool false,.sl 0 .nil []]),⟨none,.store 13 (.t 3) (.t 24),none,[21,20,19,0,1,2,3,4,5,6,7,8,9,10,11,12,13,14,15,16,17,18,19,20,21]⟩]) (aS [aM 25 0,aR 26 (.call 184 [.t 25]),aF 27 4 3,aU (.store 5 (.t 27) (.t 26))] (aS [aM 28 0,aR 29 (.nilck (.t 28)),aF 30 0 29,aL 31 30,aR 32 (.call 116 [.t 31]),aF 33 9 3,aU (.store 1 (.t 33) (.t 32))] (aS [aM 34 0,aR 35 (.call 185 [.t 34]),aF 36 10 3,aU (.store 1 (.t 36) (.t 35))] (.seq (aS [aM 37 0,aR 38 (.nilck (.t 37)),aF 39 1 38,aL 40 39,aR 41 (.bin .eql (.t 40) (aI 2))] (.cond (.t 41) (.reg false [aM 42 0,aR 43 (.call 185 [.t 42]),aF 44 11 3,aU (.store 1 (.t 44) (.t 43))]) (.skip))) (.seq (aS [aM 45 0,aR 46 (.nilck (.t 45)),aF 47 0 46,aL 48 47,aR 49 (.call 154 [.t 48,aI 1]),aR 50 (.mv (aI 0))] (.block 0 (.loop (aS [aR 51 (.bin .lss (.t 50) (.t 49))] (.seq (.cond (.t 51) (.skip) (.exit 0)) (.seq (.block 1 (.reg true [aF 52 12 3,⟨some 53,.load false 1 (.t 52),none,[0]⟩,aM 54 0,⟨some 55,.nilck (.t 54),none,[2]⟩,⟨some 56,.faddr 0 (.t 55),none,[3]⟩,⟨some 57,.load false 1 (.t 56),none,[4]⟩,⟨some 58,.call 76 [.t 57],none,[5]⟩,⟨some 59,.mks 1 [.t 58],none,[6]⟩,⟨some 60,.app 9 1 16 (.t 53) (.t 59),none,[1,7,6]⟩,⟨some 61,.faddr 12 (.t 3),none,[0,1,2,3,4,5,6,7,8]⟩,⟨none,.store 1 (.t 61) (.t 60),none,[9,8,8,0,1,2,3,4,5,6,7,8]⟩])) (.reg false [aR 62 (.bin .add (.t 50) (aI 1)),aM 50 62]))))))) (aS [aR 63 (.load true 13 (.t 3)),aU (.store 13 (.t 2) (.t 63))] (.ret)))))))),[.c 2 true 13]⟩
theorem h_rinst:AX.compFn Tryz.prog 183=some c_rinst:=by kernel_rfl
theorem a_rflag {ver:Int} (s:Sf.Rs) (hl:s.r.rest.length≤100000000) (l:List Blk) (t:List (TypeId×Nat×Nat)) :
  ACall Tryz.prog GT 185 [.ptr 0 0] ⟨RB ver s.bad::rdr s.r::l,t⟩ fun v h'=>v = .bool (Sf.flagS s).2∧h'=⟨RB ver (Sf.flagS s).1.bad::rdr (Sf.flagS s).1.r::l,t⟩:=by
 refine liftR ?_ rfl rfl l t
 refine acall_of mixedT h_rflag (by simp [c_rflag]) ?_
 dsimp only [c_rflag]
 unfold RB
 refine run0 ti ?_
 refine use (a_number (i:=1) (r:=s.r) rfl hl) ?_
 obtain ⟨q,hq⟩:∃ q,Wire.numR s.r=q:=⟨_,rfl⟩
 have hF:Sf.flagS s=(⟨q.1,s.bad||(q.2 != 0&&q.2 != 1)⟩,q.2 == 1):=by unfold Sf.flagS; rw [hq]
 rw [hq,hF]
 rcases bool_or s.bad with e0 | e0
 ·rw [e0]
  refine run0 ti ?_
  exact ⟨_,le_refl _,rfl,rfl,rfl⟩
 ·rw [e0]
  rcases bool_or (q.2 != 0) with e1 | e1
  ·refine run0 e1 ?_
   exact ⟨_,le_refl _,rfl,by rw [e1]; rfl,rfl⟩
  ·refine run0 e1 ?_
   exact ⟨_,le_refl _,rfl,by rw [e1]; rfl,rfl⟩
theorem a_rfails {ver:Int} (s:Sf.Rs) (l:List Blk) (t:List (TypeId×Nat×Nat)) :
  ACall Tryz.prog GT 151 [.ptr 0 0] ⟨RB ver s.bad::rdr s.r::l,t⟩ fun v h'=>v = .bool s.fails∧h'=⟨RB ver s.bad::rdr s.r::l,t⟩:=by
 refine acall_of mixedT h_rfails (by simp [c_rfails]) ?_
 dsimp only [c_rfails]
 unfold RB
 unfold Sf.Rs.fails
 rcases bool_or s.bad with e0 | e0
 ·rw [e0]
  refine run0 ti ?_
  exact ⟨_,le_refl _,rfl,rfl⟩
 ·rw [e0]
  refine run0 ti ?_
  refine use (a_err (i:=1) (r:=s.r) rfl) ?_
  refine run0 ti ?_
  exact ⟨_,le_refl _,rfl,rfl⟩
theorem a_rvalue {ver:Int} (s:Sf.Rs) (hl:s.r.rest.length≤100000000) (l:List Blk) (t:List (TypeId×Nat×Nat)) :
  ACall Tryz.prog GT 184 [.ptr 0 0] ⟨RB ver s.bad::rdr s.r::l,t⟩ fun v h'=>v=(Sf.valueS s).2.A∧h'=⟨RB ver (Sf.valueS s).1.bad::rdr (Sf.valueS s).1.r::l,t⟩:=by
 obtain ⟨⟨x1,x2,x3⟩,hx⟩:∃ x,Val.readValue s.r=x:=⟨_,rfl⟩
 have hF:Sf.valueS s=(⟨x1,s.bad||x2 != 0⟩,x3):=by unfold Sf.valueS; rw [hx]
 have hrd:=a_readValue1 (i:=1) (r:=s.r) (h:=⟨[RB ver s.bad,rdr s.r,.cells 34 [.int .i64 0,.int .i64 0,.str [],.sl 0 .nil [],.sl 0 .nil []]],[]⟩) rfl hl
 rw [hx] at hrd
 rw [hF]
 obtain ⟨k,n,w,is,ks⟩:=x3
 have hVA:(V.mk k n w is ks).A = .agg [.int .i64 k,.int .i64 n,.str w,.sl 5 .no (V.cellss is),.sl 1 .no (strsA ks)]:=by simp only [V.A,V.cells]
 dsimp only at hrd ⊢
 rw [hVA] at hrd ⊢
 unfold RB at hrd
 refine liftR (s':=⟨x1,s.bad||x2 != 0⟩) ?_ rfl rfl l t
 refine acall_of mixedT h_rvalue (by simp [c_rvalue]) ?_
 dsimp only [c_rvalue]
 unfold RB
 refine run0 ti ?_
 refine use hrd ?_
 rcases bool_or s.bad with e0 | e0
 ·rw [e0]
  refine run0 ti ?_
  exact ⟨_,le_refl _,rfl,rfl,rfl⟩
 ·rw [e0]
  refine run0 ti ?_
  exact ⟨_,le_refl _,rfl,rfl,rfl⟩
def ZI:Blk:=.cells 36 [.str [],.str [],.str [],.str [],.int .i64 0,.int .i64 0,.str [],.sl 0 .nil [],.sl 0 .nil [],.int .i64 0,.bool false,.bool false,.sl 0 .nil []]
def IB (a b c d:List UInt8) (v:List A) (n:Int) (tn fi:Bool) (x:A):Blk:=.cells 36 ([.str a,.str b,.str c,.str d]++v++[.int .i64 n,.bool tn,.bool fi,x])
theorem a_rinst {ver:Int} (hver:ver=1∨ver=2) (s:Sf.Rs) (hl:s.r.rest.length≤100000000) (l:List Blk) (t:List (TypeId×Nat×Nat)) :
  ACall Tryz.prog GT 183 [.ptr 0 0] ⟨RB ver s.bad::rdr s.r::l,t⟩ fun v h'=>v = .agg (Sf.instS ver s).2.cells∧h'=⟨RB ver (Sf.instS ver s).1.bad::rdr (Sf.instS ver s).1.r::l,t⟩:=by
 refine liftR (s':=(Sf.instS ver s).1) (v:=.agg (Sf.instS ver s).2.cells) ?_ rfl ?_ l t
 rotate_left
 ·obtain ⟨a,d,i,ty,⟨k,n,w,is,ks⟩,v,tn,fi,ds⟩:=(Sf.instS ver s).2
  rfl
 refine acall_of mixedT h_rinst (by simp [c_rinst]) ?_
 dsimp only [c_rinst]
 unfold RB
 obtain ⟨⟨r1,x1⟩,h1⟩:∃ q,Wire.strR s.r=q:=⟨_,rfl⟩
 have l1:=Wire.strR_rest s.r
 rw [h1] at l1
 obtain ⟨⟨r2,x2⟩,h2⟩:∃ q,Wire.strR r1=q:=⟨_,rfl⟩
 have l2:=Wire.strR_rest r1
 rw [h2] at l2
 obtain ⟨⟨r3,x3⟩,h3⟩:∃ q,Wire.strR r2=q:=⟨_,rfl⟩
 have l3:=Wire.strR_rest r2
 rw [h3] at l3
 obtain ⟨⟨r4,x4⟩,h4⟩:∃ q,Wire.strR r3=q:=⟨_,rfl⟩
 have l4:=Wire.strR_rest r3
 rw [h4] at l4
 dsimp only at l1 l2 l3 l4
 have str:∀ (r r':Wire.St) (x:List UInt8) (h:Hp),Wire.strR r=(r',x)→h.b[1]?=some (rdr r)→r.rest.length≤100000000→ACall Tryz.prog GT 76 [.ptr 1 0] h fun v h'=>v = .str x∧h'=⟨h.b.set 1 (rdr r'),h.t⟩:=fun r r' x h e hb hl=>by
  have:=a_rstring hb hl
  rw [e] at this; exact this
 refine run0 ti ?_
 refine go_gen [4,9,14,19,22] 21 [⟨[.cells 209 [.ptr 1 0,.int .i64 ver,.bool s.bad],rdr s.r,.cells 36 [.str [],.str [],.str [],.str [],.int .i64 0,.int .i64 0,.str [],.sl 0 .nil [],.sl 0 .nil [],.int .i64 0,.bool false,.bool false,.sl 0 .nil []]],[]⟩,⟨[.cells 209 [.ptr 1 0,.int .i64 ver,.bool s.bad],rdr r1,.cells 36 [.str [],.str [],.str [],.str [],.int .i64 0,.int .i64 0,.str [],.sl 0 .nil [],.sl 0 .nil [],.int .i64 0,.bool false,.bool false,.sl 0 .nil []]],[]⟩,⟨[.cells 209 [.ptr 1 0,.int .i64 ver,.bool s.bad],rdr r2,.cells 36 [.str [],.str [],.str [],.str [],.int .i64 0,.int .i64 0,.str [],.sl 0 .nil [],.sl 0 .nil [],.int .i64 0,.bool false,.bool false,.sl 0 .nil []]],[]⟩,⟨[.cells 209 [.ptr 1 0,.int .i64 ver,.bool s.bad],rdr r3,.cells 36 [.str [],.str [],.str [],.str [],.int .i64 0,.int .i64 0,.str [],.sl 0 .nil [],.sl 0 .nil [],.int .i64 0,.bool false,.bool false,.sl 0 .nil []]],[]⟩,⟨[.cells 209 [.ptr 1 0,.int .i64 ver,.bool s.bad],rdr r4,.cells 36 [.str [],.str [],.str [],.str [],.int .i64 0,.int .i64 0,.str [],.sl 0 .nil [],.sl 0 .nil [],.int .i64 0,.bool false,.bool false,.sl 0 .nil []]],[]⟩,⟨[],[]⟩,⟨[.cells 209 [.ptr 1 0,.int .i64 ver,.bool s.bad],rdr s.r,.cells 36 [.str [],.str [],.str [],.str [],.int .i64 0,.int .i64 0,.str [],.sl 0 .nil [],.sl 0 .nil [],.int .i64 0,.bool false,.bool false,.sl 0 .nil []],.cells 36 [.str [],.str [],.str [],.str [],.int .i64 0,.int .i64 0,.str [],.sl 0 .nil [],.sl 0 .nil [],.int .i64 0,.bool false,.bool false,.sl 0 .nil []]],[]⟩,⟨[.cells 209 [.ptr 1 0,.int .i64 ver,.bool s.bad],rdr r1,.cells 36 [.str [],.str [],.str [],.str [],.int .i64 0,.int .i64 0,.str [],.sl 0 .nil [],.sl 0 .nil [],.int .i64 0,.bool false,.bool false,.sl 0 .nil []],.cells 36 [.str [],.str [],.str [],.str [],.int .i64 0,.int .i64 0,.str [],.sl 0 .nil [],.sl 0 .nil [],.int .i64 0,.bool false,.bool false,.sl 0 .nil []]],[]⟩,⟨[.cells 209 [.ptr 1 0,.int .i64 ver,.bool s.bad],rdr r2,.cells 36 [.str [],.str [],.str [],.str [],.int .i64 0,.int .i64 0,.str [],.sl 0 .nil [],.sl 0 .nil [],.int .i64 0,.bool false,.bool false,.sl 0 .nil []],.cells 36 [.str [],.str [],.str [],.str [],.int .i64 0,.int .i64 0,.str [],.sl 0 .nil [],.sl 0 .nil [],.int .i64 0,.bool false,.bool false,.sl 0 .nil []]],[]⟩,⟨[.cells 209 [.ptr 1 0,.int .i64 ver,.bool s.bad],rdr r3,.cells 36 [.str [],.str [],.str [],.str [],.int .i64 0,.int .i64 0,.str [],.sl 0 .nil [],.sl 0 .nil [],.int .i64 0,.bool false,.bool false,.sl 0 .nil []],.cells 36 [.str [],.str [],.str [],.str [],.int .i64 0,.int .i64 0,.str [],.sl 0 .nil [],.sl 0 .nil [],.int .i64 0,.bool false,.bool false,.sl 0 .nil []]],[]⟩,⟨[.cells 209 [.ptr 1 0,.int .i64 ver,.bool s.bad],rdr r4,.cells 36 [.str [],.str [],.str [],.str [],.int .i64 0,.int .i64 0,.str [],.sl 0 .nil [],.sl 0 .nil [],.int .i64 0,.bool false,.bool false,.sl 0 .nil []],.cells 36 [.str [],.str [],.str [],.str [],.int .i64 0,.int .i64 0,.str [],.sl 0 .nil [],.sl 0 .nil [],.int .i64 0,.bool false,.bool false,.sl 0 .nil []]],[]⟩,⟨[.cells 209 [.ptr 1 0,.int .i64 ver,.bool s.bad],rdr r4,.cells 36 [.str [],.str [],.str [],.str [],.int .i64 0,.int .i64 0,.str [],.sl 0 .nil [],.sl 0 .nil [],.int .i64 0,.bool false,.bool false,.sl 0 .nil []],.cells 36 [.str x1,.str x2,.str x3,.str x4,.int .i64 0,.int .i64 0,.str [],.sl 0 .nil [],.sl 0 .nil [],.int .i64 0,.bool false,.bool false,.sl 0 .nil []]],[]⟩] [[0,6],[0,6],[0,6],[0,6],[0,6],[0,1,6,7],[0,1,6,7],[0,1,6,7],[0,1,6,7],[1,7],[0,1,2,6,7,8],[0,1,2,6,7,8],[0,1,2,6,7,8],[0,1,2,6,7,8],[2,8],[0,1,2,3,6,7,8,9],[0,1,2,3,6,7,8,9],[0,1,2,3,6,7,8,9],[0,1,2,3,6,7,8,9],[3,9],[4,10],[0,1,2,3,4],[10]] rfl (by decide +kernel) ?_
 refine AX.rung ti ?_
 refine gn_call (vs:=[.ptr 1 0]) (by (exact ev0 ti)) ⟨str s.r r1 x1 _ h1 rfl (by omega),str s.r r1 x1 _ h1 rfl (by omega),trivial⟩ ?_
 refine AX.rung ti ?_
 refine gn_call (vs:=[.ptr 1 0]) (by (exact ev0 ti)) ⟨str r1 r2 x2 _ h2 rfl (by omega),str r1 r2 x2 _ h2 rfl (by omega),trivial⟩ ?_
 refine AX.rung ti ?_
 refine gn_call (vs:=[.ptr 1 0]) (by (exact ev0 ti)) ⟨str r2 r3 x3 _ h3 rfl (by omega),str r2 r3 x3 _ h3 rfl (by omega),trivial⟩ ?_
 refine AX.rung ti ?_
 refine gn_call (vs:=[.ptr 1 0]) (by (exact ev0 ti)) ⟨str r3 r4 x4 _ h4 rfl (by omega),str r3 r4 x4 _ h4 rfl (by omega),trivial⟩ ?_
 refine AX.rung ti ?_
 obtain ⟨⟨⟨r5,b5⟩,xv⟩,h5⟩:∃ q,Sf.valueS ⟨r4,s.bad⟩=q:=⟨_,rfl⟩
 have c5:=a_rvalue (ver:=ver) ⟨r4,s.bad⟩ (by dsimp only; omega) [ZI,IB x1 x2 x3 x4 [.int .i64 0,.int .i64 0,.str [],.sl 0 .nil [],.sl 0 .nil []] 0 false false (.sl 0 .nil [])] []
 have l5:=Sf.valueS_le ⟨r4,s.bad⟩
 rw [h5] at c5 l5
 obtain ⟨vk,vn,vs,vi,vy⟩:=xv
 have hVA:(V.mk vk vn vs vi vy).A = .agg [.int .i64 vk,.int .i64 vn,.str vs,.sl 5 .no (V.cellss vi),.sl 1 .no (strsA vy)]:=by simp only [V.A,V.cells]
 dsimp only at c5 l5
 rw [hVA] at c5
 unfold RB ZI IB at c5
 refine run0 ti ?_
 refine use c5 ?_
 refine run0 ti ?_
 refine use (a_number (i:=1) (r:=r5) rfl (by omega)) ?_
 have l6:=Wire.numR_rest r5
 obtain ⟨⟨r6,x6⟩,h6⟩:∃ q,Wire.numR r5=q:=⟨_,rfl⟩
 rw [h6] at l6 ⊢
 dsimp only at l6 ⊢
 obtain ⟨⟨⟨r7,b7⟩,x7⟩,h7⟩:∃ q,Sf.flagS ⟨r6,b5⟩=q:=⟨_,rfl⟩
 have l7:=Sf.flagS_le ⟨r6,b5⟩
 have c7:=a_rflag (ver:=ver) ⟨r6,b5⟩ (by dsimp only; omega) [ZI,IB x1 x2 x3 x4 [.int .i64 vk,.int .i64 vn,.str vs,.sl 5 .no (V.cellss vi),.sl 1 .no (strsA vy)] x6 false false (.sl 0 .nil [])] []
 rw [h7] at c7 l7
 dsimp only at c7 l7
 unfold RB ZI IB at c7
 simp only [List.cons_append,List.nil_append] at c7
 refine run0 ti ?_
 refine use c7 ?_
 have fin:∀ (r8:Wire.St) (b8 x8:Bool) (c0:Wire.St×Nat) (rr:Wire.St) (bw:Bool) (ds:List (List UInt8)),(if ver=2 then Sf.flagS ⟨r7,b7⟩ else (⟨r7,b7⟩,false))=(⟨r8,b8⟩,x8)→Wire.cntR r8 1=c0→Sf.wordsS c0.2 ⟨c0.1,b8⟩ []=(⟨rr,bw⟩,ds)→Sf.instS ver s=(⟨rr,bw⟩,⟨x1,x2,x3,x4,.mk vk vn vs vi vy,x6,x7,x8,ds⟩):=by
  intro r8 b8 x8 c0 rr bw ds h8 hc hw
  unfold Sf.instS Sf.strS Sf.numS Sf.cntS
  simp only [h1,h2,h3,h4,h5,h6,h7,h8,hc,hw]
 have branch:∃ (r8:Wire.St) (b8 x8:Bool),(if ver=2 then Sf.flagS ⟨r7,b7⟩ else (⟨r7,b7⟩,false))=(⟨r8,b8⟩,x8)∧r8.rest.length≤r7.rest.length:=by
  by_cases hv:ver=2
  ·rw [if_pos hv]; exact ⟨(Sf.flagS ⟨r7,b7⟩).1.r,(Sf.flagS ⟨r7,b7⟩).1.bad,(Sf.flagS ⟨r7,b7⟩).2,rfl,Sf.flagS_le _⟩
  ·rw [if_neg hv]; exact ⟨r7,b7,false,rfl,Nat.le_refl _⟩
 obtain ⟨r8,b8,x8,h8,l8⟩:=branch
 have hfin:=fin r8 b8 x8
 have c8:=a_rflag (ver:=ver) ⟨r7,b7⟩ (by dsimp only; omega) [ZI,IB x1 x2 x3 x4 [.int .i64 vk,.int .i64 vn,.str vs,.sl 5 .no (V.cellss vi),.sl 1 .no (strsA vy)] x6 x7 false (.sl 0 .nil [])] []
 unfold RB ZI IB at c8
 simp only [List.cons_append,List.nil_append] at c8
 have hv12:∀ {G:Prop},(((ver == 2)=false)→r8=r7→b8=b7→x8=false→G)→((ver == 2)=true→Sf.flagS ⟨r7,b7⟩=(⟨r8,b8⟩,x8)→G)→G:=fun a b=>by
  rcases hver with rfl | rfl
  ·rw [if_neg (by decide)] at h8
   injection h8 with h8 h9
   injection h8 with h8 h10
   exact a rfl h8.symm h10.symm h9.symm
  ·rw [if_pos rfl] at h8
   exact b rfl h8
 have hval:=h8
 refine hv12 (fun e2 er eb ex=>?_) (fun e2 hf=>?_)
 ·refine run0 e2 ?_
  subst er; subst eb; subst ex
  refine use (a_count (i:=1) (r:=r8) rfl (by omega)) ?_
  have lc:=Wire.cntR_rest r8 1
  have lk:=Wire.cntR_cnt r8
  obtain ⟨⟨rc,c⟩,hc⟩:∃ q,Wire.cntR r8 1=q:=⟨_,rfl⟩
  rw [hc] at lc lk ⊢
  dsimp only at lc lk ⊢
  obtain ⟨⟨⟨rr,bw⟩,dw⟩,hw⟩:∃ q,Sf.wordsS c ⟨rc,b8⟩ []=q:=⟨_,rfl⟩
  refine run0 ti ?_
  refine awp_loop (fun mm ts h=>∃ (j:Nat) (p:Wire.St) (ds:List (List UInt8)) (W:Nat) (o:Own) (t:List (TypeId×Nat×Nat)),mm=c - j∧j≤c ∧
   h=⟨[.cells 209 [.ptr 1 0,.int .i64 ver,.bool b8],rdr p,.cells 36 [.str [],.str [],.str [],.str [],.int .i64 0,.int .i64 0,.str [],.sl 0 .nil [],.sl 0 .nil [],.int .i64 0,.bool false,.bool false,.sl 0 .nil []],.cells 36 [.str x1,.str x2,.str x3,.str x4,.int .i64 vk,.int .i64 vn,.str vs,.sl 5 .no (V.cellss vi),.sl 1 .no (strsA vy),.int .i64 x6,.bool x7,.bool false,.sl W o (strsA ds)]],t⟩ ∧
   Sf.wordsS (c - j) ⟨p,b8⟩ ds=(⟨rr,bw⟩,dw)∧ds.length=j∧p.rest.length≤rc.rest.length∧Gs 9 1 0 ⟨[],t⟩ (strsA ds) (.sl W o (strsA ds)) ∧
   ts 0 = .ptr 0 0∧ts 2 = .ptr 2 0∧ts 3 = .ptr 3 0∧ts 49 = .int .i64 (c:Nat)∧ts 50 = .int .i64 (j:Nat)) c ?_ ?_
  ·exact ⟨0,rc,[],0,.nil,[],by omega,by omega,rfl,hw,rfl,Nat.le_refl _,.inl ⟨rfl,rfl⟩,by (exact ev0 ti),by (exact ev0 ti),by (exact ev0 ti),by (exact ev0 ti),by (exact inv0 ti)⟩
  ·rintro mm ts h ⟨j,p,ds,W,o,t,rfl,hjc,rfl,hit,hdl,hpl,gX,t0,t2,t3,t49,t50⟩
   by_cases hj:j < c
   ·have hlt:(j:Int) < (c:Int):=by omega
    have ei:IntKind.i64.wrap ((j:Int)+1)=((j+1:Nat):Int):=by rw [wrap64 (by omega) (by omega)]; omega
    have lp:=Wire.strR_rest p
    have cp:=fun h hb=>str p (Wire.strR p).1 (Wire.strR p).2 h rfl hb (by omega)
    obtain ⟨⟨p2,s2⟩,hp2⟩:∃ q,Wire.strR p=q:=⟨_,rfl⟩
    have hstep:Sf.wordsS (c - (j+1)) ⟨p2,b8⟩ (ds++[s2])=(⟨rr,bw⟩,dw):=by
     rw [show c - j=(c - (j+1))+1 by omega,Sf.wordsS] at hit
     unfold Sf.strS at hit
     simp only [hp2] at hit
     exact hit
    rw [hp2] at lp cp
    dsimp only at lp cp
    obtain ⟨W',o',t',hX,gX',_⟩:=gX.grow 16 [.str s2] (by rw [strsA_length]; omega) (by decide)
    rw [←strsA_app] at gX'
    simp only [←strsA_app] at hX
    refine run0 (ai t0 (ai t2 (ai t3 (ai t49 (ai t50 hlt))))) ?_
    refine use (cp _ rfl) ?_
    refine run0 (ai t0 (ai t2 (ai t3 (ai t49 (ai t50 (ai hX ei)))))) ?_
    exact ⟨c - (j+1),by omega,j+1,p2,ds++[s2],W',o',t',rfl,by omega,rfl,hstep,by simp [hdl],by omega,gX',by (exact ev0 t0),by (exact ev0 t2),by (exact ev0 t3),by (exact ev0 t49),by (exact ev0 ei)⟩
   ·have hlt:¬ ((j:Int) < (c:Int)):=by omega
    rw [show c - j=0 by omega,Sf.wordsS] at hit
    injection hit with hit hit2
    injection hit with hit hit3
    subst hit; subst hit2; subst hit3
    refine run0 (ai t0 (ai t2 (ai t3 (ai t49 (ai t50 hlt))))) ?_
    rw [hfin _ _ _ _ hval hc hw]
    exact ⟨.agg [.str x1,.str x2,.str x3,.str x4,.int .i64 vk,.int .i64 vn,.str vs,.sl 5 .no (V.cellss vi),.sl 1 .no (strsA vy),.int .i64 x6,.bool x7,.bool false,.sl 1 .no (strsA ds)],⟨le1_refl _,le1_refl _,le1_refl _,le1_refl _,le1_refl _,le1_refl _,le1_refl _,le1_refl _,le1_refl _,le1_refl _,le1_refl _,le1_refl _,Gs.le gX,trivial⟩,rfl,rfl,rfl⟩
 ·refine run0 e2 ?_
  rw [hf] at c8
  dsimp only at c8
  refine use c8 ?_
  refine run0 ti ?_
  refine use (a_count (i:=1) (r:=r8) rfl (by omega)) ?_
  have lc:=Wire.cntR_rest r8 1
  have lk:=Wire.cntR_cnt r8
  obtain ⟨⟨rc,c⟩,hc⟩:∃ q,Wire.cntR r8 1=q:=⟨_,rfl⟩
  rw [hc] at lc lk ⊢
  dsimp only at lc lk ⊢
  obtain ⟨⟨⟨rr,bw⟩,dw⟩,hw⟩:∃ q,Sf.wordsS c ⟨rc,b8⟩ []=q:=⟨_,rfl⟩
  refine run0 ti ?_
  refine awp_loop (fun mm ts h=>∃ (j:Nat) (p:Wire.St) (ds:List (List UInt8)) (W:Nat) (o:Own) (t:List (TypeId×Nat×Nat)),mm=c - j∧j≤c ∧
   h=⟨[.cells 209 [.ptr 1 0,.int .i64 ver,.bool b8],rdr p,.cells 36 [.str [],.str [],.str [],.str [],.int .i64 0,.int .i64 0,.str [],.sl 0 .nil [],.sl 0 .nil [],.int .i64 0,.bool false,.bool false,.sl 0 .nil []],.cells 36 [.str x1,.str x2,.str x3,.str x4,.int .i64 vk,.int .i64 vn,.str vs,.sl 5 .no (V.cellss vi),.sl 1 .no (strsA vy),.int .i64 x6,.bool x7,.bool x8,.sl W o (strsA ds)]],t⟩ ∧
   Sf.wordsS (c - j) ⟨p,b8⟩ ds=(⟨rr,bw⟩,dw)∧ds.length=j∧p.rest.length≤rc.rest.length∧Gs 9 1 0 ⟨[],t⟩ (strsA ds) (.sl W o (strsA ds)) ∧
   ts 0 = .ptr 0 0∧ts 2 = .ptr 2 0∧ts 3 = .ptr 3 0∧ts 49 = .int .i64 (c:Nat)∧ts 50 = .int .i64 (j:Nat)) c ?_ ?_
  ·exact ⟨0,rc,[],0,.nil,[],by omega,by omega,rfl,hw,rfl,Nat.le_refl _,.inl ⟨rfl,rfl⟩,by (exact ev0 ti),by (exact ev0 ti),by (exact ev0 ti),by (exact ev0 ti),by (exact inv0 ti)⟩
  ·rintro mm ts h ⟨j,p,ds,W,o,t,rfl,hjc,rfl,hit,hdl,hpl,gX,t0,t2,t3,t49,t50⟩
   by_cases hj:j < c
   ·have hlt:(j:Int) < (c:Int):=by omega
    have ei:IntKind.i64.wrap ((j:Int)+1)=((j+1:Nat):Int):=by rw [wrap64 (by omega) (by omega)]; omega
    have lp:=Wire.strR_rest p
    have cp:=fun h hb=>str p (Wire.strR p).1 (Wire.strR p).2 h rfl hb (by omega)
    obtain ⟨⟨p2,s2⟩,hp2⟩:∃ q,Wire.strR p=q:=⟨_,rfl⟩
    have hstep:Sf.wordsS (c - (j+1)) ⟨p2,b8⟩ (ds++[s2])=(⟨rr,bw⟩,dw):=by
     rw [show c - j=(c - (j+1))+1 by omega,Sf.wordsS] at hit
     unfold Sf.strS at hit
     simp only [hp2] at hit
     exact hit
    rw [hp2] at lp cp
    dsimp only at lp cp
    obtain ⟨W',o',t',hX,gX',_⟩:=gX.grow 16 [.str s2] (by rw [strsA_length]; omega) (by decide)
    rw [←strsA_app] at gX'
    simp only [←strsA_app] at hX
    refine run0 (ai t0 (ai t2 (ai t3 (ai t49 (ai t50 hlt))))) ?_
    refine use (cp _ rfl) ?_
    refine run0 (ai t0 (ai t2 (ai t3 (ai t49 (ai t50 (ai hX ei)))))) ?_
    exact ⟨c - (j+1),by omega,j+1,p2,ds++[s2],W',o',t',rfl,by omega,rfl,hstep,by simp [hdl],by omega,gX',by (exact ev0 t0),by (exact ev0 t2),by (exact ev0 t3),by (exact ev0 t49),by (exact ev0 ei)⟩
   ·have hlt:¬ ((j:Int) < (c:Int)):=by omega
    rw [show c - j=0 by omega,Sf.wordsS] at hit
    injection hit with hit hit2
    injection hit with hit hit3
    subst hit; subst hit2; subst hit3
    refine run0 (ai t0 (ai t2 (ai t3 (ai t49 (ai t50 hlt))))) ?_
    rw [hfin _ _ _ _ hval hc hw]
    exact ⟨.agg [.str x1,.str x2,.str x3,.str x4,.int .i64 vk,.int .i64 vn,.str vs,.sl 5 .no (V.cellss vi),.sl 1 .no (strsA vy),.int .i64 x6,.bool x7,.bool x8,.sl 1 .no (strsA ds)],⟨le1_refl _,le1_refl _,le1_refl _,le1_refl _,le1_refl _,le1_refl _,le1_refl _,le1_refl _,le1_refl _,le1_refl _,le1_refl _,le1_refl _,Gs.le gX,trivial⟩,rfl,rfl,rfl⟩
end AX
end Go.Proofs.YtahmpiioegemaaaGreatDoor
