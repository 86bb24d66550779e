/- Part of what the proof needs. -/
import Derived.Test.YthhpocnmfknalaaGreatDoorMFrWs3V
set_option maxHeartbeats 4000000
set_option maxRecDepth 100000
set_option linter.all false
namespace Go.Proofs.YthhpocnmfknalaaGreatDoor
section
open Go.RowKit
namespace AX
def Grw(lo W:Nat)(T:TypeId)(L:List Blk)(rows:List (List A))(v:A):Prop:=(rows=[]/\v=.sl 0 .nil [])\/∃k,v=.bs (lo+k) W rows.length/\L[k]?=some (.row T rows.flatten)
def LocL(L:List Blk):Prop:=∀b∈L,b.loc 0\/b=.gone
theorem axt{rows:List (List A)}{W:Nat}(hW:∀r∈rows,r.length=W):rows.flatten.length=rows.length*W:=by
 induction rows with
 |nil=>simp
 |cons r rows ih=>
  rw[ZV,Za,Zg,YA,ih fun r hr=>hW r (ZU _ hr),hW r Yo];omega
theorem cv6{x:A}(h:x.data=true):x.loc 0=true:=by
 cases x with
 |sl W o rows=>cases o<;>first|(unfold A.loc;rfl)|(simp[A.data]at h)
 |_=>first|(unfold A.loc;rfl)|(simp[A.data]at h)
theorem avl:∀{l:List A},l.all A.data=true->A.locL 0 l=true:=fun {l}=>by
 induction l with
 |nil=>intro _;unfold A.locL;rfl
 |cons x l ih=>
  intro h;rw[ZK,Zf]at h;unfold A.locL;rw[cv6 h.1,ih h.2];rfl
theorem Grw.grow{lo W:Nat}{T:TypeId}{L:List Blk}{rows:List (List A)}{v:A}(hg:Grw lo W T L rows v)(hl:LocL L)(bytes:Nat)(x:List A)(hx:x.length=W)(hd:x.all A.data=true)(hW:∀r∈rows,r.length=W)(hrd:rows.flatten.all A.data=true)(hn:rows.length+1<=100000000)(hb:bytes<=1000):
  ∃(i n:Nat) (F:Blk->List Blk),(∀(p:List Blk) e,p.length=lo->appB ⟨p++(L++[e]),[]⟩ T W bytes v (.sl W .no [x])=some (.bs i W n,⟨p++F e,[]⟩))/\(∀e,Grw lo W T (F e) (rows++[x]) (.bs i W n))/\∀e:Blk,e.loc 0->LocL (F e):=by
 have hmul:(rows.length+1)*bytes<=140737488355328:=by
  have:=Nat.mul_le_mul hn hb;omega
 have hml:rows.length+1<=maxLen:=by unfold maxLen;omega
 have hrow:∀l:List A,l.all A.data=true->(Blk.row T l).loc 0:=fun l h=>avl h
 rcases hg with⟨rfl,rfl⟩|⟨k,rfl,hk⟩
 ·refine⟨lo+(L.length+1),1,fun e=>L++[e]++[.row T x],fun p e hp=>?_,fun e=> .inr ⟨L.length+1,rfl,?_⟩,fun e he y hy=>?_⟩
  ·simp only[appB,rowC,if_true,Zg,Zq,ZV,List.flatten_nil,Zx,Za,hp];rw[if_pos (by omega),if_pos ⟨by unfold maxLen;omega,by simp only[Zq]at hmul;omega⟩,Zi]
  ·rw[List.getElem?_append_right (by simp)];simp
  ·rcases Yb.1 hy with hy|hy
   ·rcases Yb.1 hy with hy|hy
    ·exact hl y hy
    ·exact .inl (by rw[Zy.1 hy];exact he)
   ·exact .inl (by rw[Zy.1 hy];exact hrow _ hd)
 ·have hlt:k<L.length:=(Zb.1 hk).1;have hfl:=axt hW;refine⟨lo+(L.length+1),rows.length+1,fun e=>(L.set k .gone)++[e]++[.row T (rows++[x]).flatten],fun p e hp=>?_,fun e=> .inr ⟨L.length+1,by rw[Za];rfl,?_⟩,fun e he y hy=>?_⟩
  ·have hget:(p++(L++[e]))[lo+k]?=some (.row T rows.flatten):=by
    rw[List.getElem?_append_right (by omega),hp,show lo+k-lo=k by omega,ZB hlt];exact hk
   have hset:(p++(L++[e])).set (lo+k) .gone=p++(L.set k .gone++[e]):=by
    rw[List.set_append_right _ _ (by omega),hp,show lo+k-lo=k by omega,List.set_append_left k Blk.gone hlt]
   simp only[appB,rowC,if_true,Zg,Zq,ZV,List.flatten_nil,Zx,Za,hget,hset,hp];rw[if_pos (by omega),if_pos ⟨trivial,by simpa using hml,by simpa using hmul⟩,if_pos ⟨trivial,by omega⟩,ZJ (by omega)];simp only[List.flatten_append,ZV,List.flatten_nil,Zx];rw[Zi]
  ·rw[List.getElem?_append_right (by simp)];simp
  ·rcases Yb.1 hy with hy|hy
   ·rcases Yb.1 hy with hy|hy
    ·rcases List.mem_or_eq_of_mem_set hy with hy|hy
     ·exact hl y hy
     ·exact .inr hy
    ·exact .inl (by rw[Zy.1 hy];exact he)
   ·have hfd:(rows++[x]).flatten.all A.data=true:=by
     rw[List.flatten_append,List.all_append,Zf];exact⟨hrd,by simpa using hd⟩
    exact .inl (by rw[Zy.1 hy];exact hrow _ hfd)
end AX
theorem byp(b off n c:Nat)(news:List Value)(w:World)(hl:news.length=n*1)(hn:0<n)(hbig:n*16<=140737488355328)(hmax:n<=maxLen)(hc:∀j v,news[j]?=some v->w.cell? ((⟨b,off,none⟩:Addr).add j)=some v)(h1:∀u∈news,u.oneCell'=true):
  Calls Tryz.prog 99 #[.slice (some ⟨b,off,none⟩) n c] w fun e w'=>∃v',e=.returned v'/\w'.ownsRow w.heap.size 9 1 v' n news/\Below w.heap.size w w':=by
 obtain⟨i0,hi,hz0,hz1,hz2⟩:=info_parts (show(Tryz.prog.info? 9).map (fun i=>(i.zero,i.size,i.bytes))=some (some (.string ⟨#[]⟩),1,16) by kernel_rfl);have q22:∀(w:World) (a:Option Addr) (n c n' c':Nat),(binOp .eql 34 (.slice a n c) (.slice none n' c')).run Tryz.prog w=.ok (.bool a.isNone) w:=fun w a n c n' c'=>Lib.run_eql_slice_nil w _ _ a n c n' c' Tryz.underlying34
 have u22:∀w,Sem.run Tryz.prog (underlying 34) w=.ok (TypeDesc.slice 9) w:=run_underlying Tryz.underlying34;have HC:=kept hc;have H1:=kept h1;clear hc h1;go_enter Tryz.func99,Tryz.ntmps99;go_wp2_with (at_builtin;refine wpList_append_own _ rfl _ _ 34 rfl w.heap.size 9 i0 (.string ⟨#[]⟩) 1 16 Tryz.underlying34 hi hz0 hz1 hz2 rfl (by decide) _ _ _ rfl (World.ownsRow_made w #[] 0 (Ze _) (ZH _) rfl) ⟨b,off,none⟩ n c news rfl ?qc1 ?qc2 ?qc3 ?qc4 ?qc5 ?qc6 ?_)
 case qc1=>exact hl
 case qc2=>
  intro j u hj;have:=HC.out j u hj;rw[Addr.add_lit]at this⊢;exact Lib.cell?_alloc_some _ this
 case qc3=>exact H1.out
 case qc4=>omega
 case qc5=>omega
 case qc6=>simp
 intro v' w1 hown hgrow hnil;have Hb:=kept (((Below.refl _ w).alloc (Ze _) (.cells #[] 9)).grown hgrow (by simp) (by intro k hk;simp[Value.ownBlock]at hk;omega));have Ho:=kept (show w1.ownsRow w.heap.size 9 1 v' n news by simpa using hown);clear hown hgrow hnil HC H1;go_wp2
 go_ret
 exact⟨v',rfl,Ho.out,Hb.out⟩
theorem bke(a:Option Addr)(c:Nat)(w:World):
  Calls Tryz.prog 99 #[.slice a 0 c] w fun e w'=>(∃a' c',e=.returned (.slice a' 0 c'))/\Below w.heap.size w w':=by
 have q22:∀(w:World) (a:Option Addr) (n c n' c':Nat),(binOp .eql 34 (.slice a n c) (.slice none n' c')).run Tryz.prog w=.ok (.bool a.isNone) w:=fun w a n c n' c'=>Lib.run_eql_slice_nil w _ _ a n c n' c' Tryz.underlying34
 have u22:∀w,Sem.run Tryz.prog (underlying 34) w=.ok (TypeDesc.slice 9) w:=run_underlying Tryz.underlying34;cases a with
 |none=>
  go_enter Tryz.func99,Tryz.ntmps99;go_wp2
  go_ret
  exact⟨⟨_,_,rfl⟩,Below.refl _ _⟩
 |some ad=>
  obtain⟨i0,hi,hz0,hz1,hz2⟩:=info_parts (show(Tryz.prog.info? 9).map (fun i=>(i.zero,i.size,i.bytes))=some (some (.string ⟨#[]⟩),1,16) by kernel_rfl);go_enter Tryz.func99,Tryz.ntmps99;go_wp2_with (at_builtin;refine wpList_append_own _ rfl _ _ 34 rfl w.heap.size 9 i0 (.string ⟨#[]⟩) 1 16 Tryz.underlying34 hi hz0 hz1 hz2 rfl (by decide) _ _ _ rfl (World.ownsRow_made w #[] 0 (Ze _) (ZH _) rfl) ad 0 c [] rfl rfl (by intro j u hj;simp at hj) (by intro u hu;cases hu) (by unfold maxLen;omega) (by omega) (by simp) ?_);intro v' w1 hown hgrow hnil;have Hb:=kept (((Below.refl _ w).alloc (Ze _) (.cells #[] 9)).grown hgrow (by simp) (by intro k hk;simp[Value.ownBlock]at hk;omega));have Hv:∃a' c',v'=.slice a' 0 c':=by
   rcases hown.2 with⟨rfl,_⟩|⟨g,cap,cur,rfl,_⟩
   ·exact⟨_,_,rfl⟩
   ·exact⟨_,_,rfl⟩
  obtain⟨a',c',rfl⟩:=Hv;clear hown hgrow hnil;go_wp2
  go_ret
  exact⟨⟨_,_,rfl⟩,Hb.out⟩
namespace AX
theorem bxn(W0:Nat)(o:Own)(h:Hp):AT 99 [.sl W0 o []] h (.sl 1 .no []):=by
 intro C es hI ha;obtain⟨c,es',rfl,h1,h2⟩:=repL_cons.1 ha;rw[azo]at h2;subst h2;obtain⟨a,cap,rfl,_,_,_⟩:=rep_sl.1 h1;refine(bke a cap C.w).mono ?_;rintro e w' ⟨⟨a',c',rfl⟩,hb⟩;obtain⟨i1,s1⟩:=aqz hI hb;exact⟨C.at w',h,.sl 1 .no [],_,rfl,rfl,i1,s1,rep_sl.2 ⟨a',c',rfl,ZH _,by unfold RepRows;trivial,trivial⟩,rfl,rfl⟩
theorem akd(o:Own)(rows:List (List A))(h0:rows≠[])(hbig:rows.length*16<=140737488355328)(hmax:rows.length<=maxLen)(h:Hp):
  AC 99 [.sl 1 o rows] h fun v h'=>v=.bs h.b.length 1 rows.length/\h'=⟨h.b++[.row 9 rows.flatten],h.t⟩:=by
 intro C es hI ha;obtain⟨c,es',rfl,h1,h2⟩:=repL_cons.1 ha;rw[azo]at h2;subst h2;have hpos:0<rows.length:=Yz.2 h0;obtain⟨g,off,cap,cs,rfl,k1,k2,k3,k4,k5⟩:=awg h1 hpos;refine(byp g off rows.length cap cs C.w k2 hpos hbig hmax k5 (aqk k1 (avv k3))).mono ?_;rintro e w' ⟨v',rfl,hown,hb⟩;rcases hown.2 with⟨_,hz⟩|⟨g',cap',cur,rfl,hg,hh,hcap,hcm,hcs,htake⟩
 ·omega
 ·have hcur:cur=(cs++cur.toList.drop (rows.length*1)).toArray:=by
   apply Z9.1;rw[<-htake];simp
  rw[hcur]at hh;obtain⟨C',m1,m2,m3,m4,m5,m6⟩:=aje hI hb hg hh k1;exact⟨C',_,.bs h.b.length 1 rows.length,_,rfl,m1,m2,m3,rep_bs.2 ⟨cap',by rw[m4],hcap,m5,hcm,by rw[m6,<-hcs];exact Nat.le_of_eq (congrArg Array.size hcur)⟩,rfl,rfl⟩
end AX
namespace AX
end AX
namespace AX
theorem cwy(ks:List (List UInt8))(hn:ks.length<=1000000000)(h:Hp):AT 99 [.sl 1 .no (strsA ks)] h (.sl 1 .no (strsA ks)):=by
 cases ks with
 |nil=>exact bxn _ _ h
 |cons k l=>
  have hl:(strsA (k::l)).length=(k::l).length:=aze _;refine pcallv (ACall.mono (akd .no (strsA (k::l)) (by simp[strsA]) (by rw[hl];omega) (by rw[hl];unfold maxLen;omega) ⟨[],[]⟩) ?_) (by simp[A.pure,A.data]) h;rintro v h' ⟨rfl,rfl⟩;refine .one (.inr ⟨0,1,_,strsA (k::l),rfl,rfl,rfl,fun r hr=>?_,?_⟩)
  ·obtain⟨s,_,rfl⟩:=Z4.1 hr;rfl
  ·rw[ZE];intro x hx;obtain⟨r,hr,hx⟩:=List.mem_flatten.1 hx;obtain⟨s,_,rfl⟩:=Z4.1 hr;rw[Zy.1 hx];rfl
end AX
theorem ay2(w:World):Calls Tryz.prog 99 #[.slice none 0 0] w fun e w'=>e=.returned (.slice none 0 0)/\Below w.heap.size w w':=by
 have q22:∀(w:World) (a:Option Addr) (n c n' c':Nat),(binOp .eql 34 (.slice a n c) (.slice none n' c')).run Tryz.prog w=.ok (.bool a.isNone) w:=fun w a n c n' c'=>Lib.run_eql_slice_nil w _ _ a n c n' c' Tryz.underlying34
 have u22:∀w,Sem.run Tryz.prog (underlying 34) w=.ok (TypeDesc.slice 9) w:=run_underlying Tryz.underlying34;go_enter Tryz.func99,Tryz.ntmps99;go_wp2
 go_ret
 exact⟨rfl,Below.refl _ _⟩
theorem AX.a_clone_strs_nil(W:Nat)(h:AX.Hp):AX.AT 99 [.sl W .nil []] h (.sl 0 .nil []):=by
 intro C es hI ha;obtain⟨c,es',rfl,h1,h2⟩:=AX.repL_cons.1 ha;rw[AX.azo]at h2;subst h2;obtain⟨a,cap,rfl,_,_,hn⟩:=AX.rep_sl.1 h1;obtain⟨rfl,rfl,_⟩:=hn;refine(ay2 C.w).mono ?_;rintro e w' ⟨rfl,hb⟩;obtain⟨i1,s1⟩:=AX.aqz hI hb;exact⟨C.at w',h,.sl 0 .nil [],_,rfl,rfl,i1,s1,AX.rep_sl.2 ⟨none,0,rfl,Ze _,by unfold AX.RepRows;trivial,rfl,rfl,rfl⟩,rfl,rfl⟩
end
section
mutual
def V.few:V->Prop
 |.mk k n s is ks=>is.length<=2000000/\ks.length<=2000000/\V.fews is
def V.fews:List V->Prop
 |[]=>True
 |v::l=>v.few/\V.fews l
end
theorem V.fews_mem:∀{l:List V},V.fews l->∀x∈l,x.few
 |[],_=>by simp
 |v::l,h=>by
  unfold V.fews at h;exact Y6.2 ⟨h.1,V.fews_mem h.2⟩
end
section
open Go.RowKit
namespace AX
theorem av6{α:Type}(f:α->List A)(l:List α)(i:Nat)(h:i<l.length)(hl:l.length<=4611686018427387904):
  (l.map f).length=l.length/\(i:Int)<(l.length:Int)/\(0:Int)<=(i:Int)/\(l.map f).getD i []=f l[i]/\IntKind.i64.wrap ((i:Int)+1)=((i+1:Nat):Int):=
 ⟨Zj _,by omega,by omega,by simp[List.getD,h],by rw[wrap64 (by omega) (by omega)];omega⟩
theorem avi{α:Type}(f:α->List A)(l:List α)(i:Nat)(h:l.length<=i):(l.map f).length=l.length/\¬(i:Int)<(l.length:Int):=⟨Zj _,by omega⟩
def aq3:AX.AFn:=⟨12,aS [aR 1 (.box 51 (.t 0)),aR 2 (.alloc 51 [.int .i64 0,.int .i64 0,.str [],.sl 0 .nil [],.sl 0 .nil []])] (aS [aF 3 4 1,aL 4 3,aR 5 (.call 99 [.t 4]),aF 6 4 1,aU (.store 1 (.t 6) (.t 5))] (aS [aF 7 3 1,aL 8 7,aR 9 (.call 100 [.t 8]),aF 10 3 1,aU (.store 1 (.t 10) (.t 9))] (aS [aR 11 (.load true 5 (.t 1)),aU (.store 5 (.t 2) (.t 11))] (.ret)))),[.c 2 true 5]⟩
theorem ayd:AX.compFn Tryz.prog 66=some aq3:=by kernel_rfl
def aqy:AX.AFn:=⟨25,aS [aR 2 (.mv (.c (.sl 0 .nil [])))] (.seq (aS [aM 6 0,aR 7 (.len false (.t 6)),aR 8 (.bin .eql (.t 7) (aI 0))] (.cond (.t 8) (aS [aR 2 (.mv (.c (.sl 0 .nil [])))] (.ret)) (.skip))) (aS [aM 9 0,aR 10 (.len false (.t 9)),aR 11 (.mkc 51 5 80 [.int .i64 0,.int .i64 0,.str [],.sl 0 .nil [],.sl 0 .nil []] (aI 0) (.t 10)),aM 3 11] (.seq (aS [aM 12 0,aR 13 (.len false (.t 12)),aR 14 (.mv (aI 0))] (.block 0 (.loop (aS [aR 15 (.bin .lss (.t 14) (.t 13))] (.seq (.cond (.t 15) (.skip) (.exit 0)) (.seq (.block 1 (aS [aR 16 (.iaddr 5 (.t 12) (.t 14)),aR 17 (.load true 5 (.t 16)),aR 5 (.alloc 51 [.int .i64 0,.int .i64 0,.str [],.sl 0 .nil [],.sl 0 .nil []]),aU (.store 5 (.t 5) (.t 17))] (.reg false [aM 18 3,aR 19 (.load true 5 (.t 5)),aR 20 (.call 66 [.t 19]),aR 21 (.mks 5 [.t 20]),aR 22 (.apb 51 5 80 (.t 18) (.t 21)),aM 3 22]))) (.reg false [aR 23 (.bin .add (.t 14) (aI 1)),aM 14 23]))))))) (aS [aM 24 3,aM 2 24] (.ret))))),[.t 2]⟩
theorem awl:AX.compFn Tryz.prog 100=some aqy:=by kernel_rfl
def ayi:AX.AFn:=⟨17,aS [aR 4 (.mv (.c (.bool false)))] (aS [aM 5 0,aR 6 (.call 137 [.t 5]),aM 7 6,aG 8 (.mv (.t 1)) 7 true,aG 9 (.call 137 [.t 8]) 7 true,aG 10 (.un .not (.t 9)) 7 true,aR 11 (.pick (.t 7) (.t 10) (.c (.bool false))),aM 12 11,aG 13 (.mv (.t 0)) 12 false,aG 14 (.mv (.t 1)) 12 false,aG 15 (.bin .lss (.t 13) (.t 14)) 12 false,aR 16 (.pick (.t 12) (.c (.bool true)) (.t 15)),aM 4 16] (.ret)),[.t 4]⟩
theorem cx5:AX.compFn Tryz.prog 101=some ayi:=by kernel_rfl
def bq3:AX.AFn:=⟨6,aS [aR 2 (.mv (.c (.bool false)))] (aS [aM 3 0,aM 4 0,aR 5 (.bin .neq (.t 3) (.t 4)),aM 2 5] (.ret)),[.t 2]⟩
theorem ckr:AX.compFn Tryz.prog 137=some bq3:=by kernel_rfl
noncomputable def ava:AX.AFn:=⟨95,aS [aR 6 (.mv (.c (.sl 0 .nil [])))] (aS [aM 10 0,aM 11 1,aR 12 (.slsl 1 (.t 10) (some (.t 11)) none)] (aS [aM 13 2,aR 14 (.len false (.t 13)),aM 7 14] (.seq (aS [aM 15 7,aR 16 (.bin .eql (.t 15) (aI 0))] (.cond (.t 16) (aS [aM 17 0,aM 6 17] (.ret)) (.skip))) (aS [aM 18 0,aR 19 (.len false (.t 18)),aM 8 19] (.seq (aS [aM 20 1,aM 21 8,aR 22 (.bin .eql (.t 20) (.t 21))] (.cond (.t 22) (aS [aM 23 0,aM 24 2,aR 25 (.apb 9 1 16 (.t 23) (.t 24)),aM 6 25] (.ret)) (.skip))) (.seq (.seq (.prim 95 (AX.rg Tryz.prog 68 0)) (.cond (.t 31) (.seq (.prim 95 (AX.rg Tryz.prog 68 1)) (.seq (.prim 95 (AX.rg Tryz.prog 68 2)) (.seq (.prim 95 (AX.rg Tryz.prog 68 3)) (aS [aM 55 9,aM 6 55] (.ret))))) (.skip))) (aS [aM 56 0,aM 57 8,aM 58 7,aR 59 (.bin .add (.t 57) (.t 58)),aR 60 (.slsl 1 (.t 56) none (some (.t 59))),aM 0 60] (.seq (.seq (.prim 95 (AX.rg Tryz.prog 68 4)) (.cond (.t 68) (.seq (.prim 95 (AX.rg Tryz.prog 68 5)) (.seq (.prim 95 (AX.rg Tryz.prog 68 6)) (aS [aM 83 0,aM 6 83] (.ret)))) (.skip))) (.seq (.prim 95 (AX.rg Tryz.prog 68 7)) (aS [aM 89 0,aM 90 1,aR 91 (.slsl 1 (.t 89) (some (.t 90)) none),aM 92 7,aR 93 (.call 104 [.t 91,.t 92])] (aS [aM 94 0,aM 6 94] (.ret)))))))))))),[.t 6]⟩
theorem bww:AX.compFn Tryz.prog 68=some ava:=by kernel_rfl
noncomputable def avm:AX.AFn:=⟨95,aS [aR 6 (.mv (.c (.sl 0 .nil [])))] (aS [aM 10 0,aM 11 1,aR 12 (.slsl 5 (.t 10) (some (.t 11)) none)] (aS [aM 13 2,aR 14 (.len false (.t 13)),aM 7 14] (.seq (aS [aM 15 7,aR 16 (.bin .eql (.t 15) (aI 0))] (.cond (.t 16) (aS [aM 17 0,aM 6 17] (.ret)) (.skip))) (aS [aM 18 0,aR 19 (.len false (.t 18)),aM 8 19] (.seq (aS [aM 20 1,aM 21 8,aR 22 (.bin .eql (.t 20) (.t 21))] (.cond (.t 22) (aS [aM 23 0,aM 24 2,aR 25 (.apb 51 5 80 (.t 23) (.t 24)),aM 6 25] (.ret)) (.skip))) (.seq (.seq (.prim 95 (AX.rg Tryz.prog 69 0)) (.cond (.t 31) (.seq (.prim 95 (AX.rg Tryz.prog 69 1)) (.seq (.prim 95 (AX.rg Tryz.prog 69 2)) (.seq (.prim 95 (AX.rg Tryz.prog 69 3)) (aS [aM 55 9,aM 6 55] (.ret))))) (.skip))) (aS [aM 56 0,aM 57 8,aM 58 7,aR 59 (.bin .add (.t 57) (.t 58)),aR 60 (.slsl 5 (.t 56) none (some (.t 59))),aM 0 60] (.seq (.seq (.prim 95 (AX.rg Tryz.prog 69 4)) (.cond (.t 68) (.seq (.prim 95 (AX.rg Tryz.prog 69 5)) (.seq (.prim 95 (AX.rg Tryz.prog 69 6)) (aS [aM 83 0,aM 6 83] (.ret)))) (.skip))) (.seq (.prim 95 (AX.rg Tryz.prog 69 7)) (aS [aM 89 0,aM 90 1,aR 91 (.slsl 5 (.t 89) (some (.t 90)) none),aM 92 7,aR 93 (.call 106 [.t 91,.t 92])] (aS [aM 94 0,aM 6 94] (.ret)))))))))))),[.t 6]⟩
theorem bw9:AX.compFn Tryz.prog 69=some avm:=by kernel_rfl
theorem V.cellsD(v:V):v.cells.all A.data=true:=by obtain⟨k,n,s,is,ks⟩:=v;simp[V.cells,A.data]
theorem V.cells_len5(v:V):v.cells.length=5:=by obtain⟨k,n,s,is,ks⟩:=v;simp[V.cells]
theorem axl(l:List V):(∀r∈V.cellss l,r.length=5)/\(V.cellss l).flatten.all A.data=true:=by
 rw[V.cellss_map];refine⟨fun r hr=>by obtain⟨y,_,rfl⟩:=Z4.1 hr;exact V.cells_len5 y,?_⟩;rw[ZE];intro x hx;obtain⟨r,hr,hx⟩:=List.mem_flatten.1 hx;obtain⟨y,_,rfl⟩:=Z4.1 hr;exact ZE.1 (V.cellsD y) x hx
theorem ajr(l:List (List UInt8)):(∀r∈strsA l,r.length=1)/\(strsA l).flatten.all A.data=true/\∀i (h:i<l.length),((strsA l).flatten.drop i).take 1=[.str l[i]]:=by
 refine⟨fun r hr=>by obtain⟨y,_,rfl⟩:=Z4.1 hr;rfl,?_,?_⟩
 ·rw[ZE];intro x hx;obtain⟨r,hr,hx⟩:=List.mem_flatten.1 hx;obtain⟨y,_,rfl⟩:=Z4.1 hr;rw[Zy.1 hx];rfl
 ·induction l with
  |nil=>intro i h;cases h
  |cons s l ih=>
   intro i h;cases i with
   |zero=>rfl
   |succ i=>exact ih i (by simpa using h)
theorem bjw(l:List (List UInt8)):(strsA l).flatten.length=l.length:=by
 rw[axt (ajr l).1,aze,Nat.mul_one]
theorem bjr(l:List V)(hn:l.length<=2000000)(ih:∀v∈l,∀h,AT 66 [v.A] h (v.A)):
  AC 100 [.sl 5 .no (V.cellss l)] ⟨[],[]⟩ fun v h'=>∃L,h'=⟨L,[]⟩/\Grw 0 5 51 L (V.cellss l) v/\LocL L:=by
 rw[V.cellss_map];have li:(l.map V.cells).length=l.length:=Zj _;refine azc mixedT awl (by simp[aqy]) ?_;dsimp only[aqy];by_cases h0:l.length=0
 ·obtain rfl:=YU.1 h0;have z0:(((0:Nat):Int)==0)=true:=rfl;refine azq z0 ti ?_;exact⟨_,le_refl _,[],rfl,.inl ⟨rfl,rfl⟩,fun b hb=>by cases hb⟩
 have z1:((l.length:Int)==0)=false:=by rw[Zr];omega
 have z2:(0:Int)<=(l.length:Int):=by omega
 have z3:(l.length:Int)<=1000000000000:=by omega
 have z4:(l.length:Int)*((80:Nat):Int)<=140737488355328:=by omega
 have z5:zrows 0 [.int .i64 0,.int .i64 0,.str [],.sl 0 .nil [],.sl 0 .nil []]=[]:=rfl;refine azq (ai li (ai z1 (ai z2 (ai z3 (ai z4 z5))))) ti ?_
 refine azg (fun m ts hh=>∃(j:Nat) (L:List Blk) (i n:Nat),m=l.length-j/\j<=l.length/\hh=⟨L,[]⟩/\Grw 0 5 51 L ((l.take j).map V.cells) (.bs i 5 n)/\LocL L /\
  (ts 3=.bs i 5 n/\ts 12=.sl 5 .no (l.map V.cells)/\ts 13=.int .i64 (l.length:Nat)/\ts 14=.int .i64 (j:Nat))) l.length ?_ ?_
 ·exact⟨0,_,0,0,rfl,ZH _,rfl,.inr ⟨0,rfl,rfl⟩,fun b hb=> .inl (by rw[Zy.1 hb];show A.locL 0 []=true;unfold A.locL;rfl),by(exact azy li)⟩
 clear z1 z2 z3 z4 z5;rintro m ts hh ⟨j,L,i,n,rfl,hj,rfl,hg,hL,ht⟩;rcases Yd j l.length with hlt|hge
 ·have hf:=av6 V.cells l j hlt (by omega);have em:(l.take j).map V.cells++[V.cells l[j]]=(l.take (j+1)).map V.cells:=by
   have e:l.take (j+1)=l.take j++[l[j]]:=(List.take_append_getElem hlt).symm;rw[e,YL];rfl
  obtain⟨i',n',F,hX,gX,hL'⟩:=hg.grow hL 80 (V.cells l[j]) (V.cells_len5 _) (V.cellsD _) (fun r hr=>by obtain⟨y,_,rfl⟩:=Z4.1 hr;exact V.cells_len5 y) (by have:=(axl (l.take j)).2;rwa [V.cellss_map]at this) (by rw[Zj,Zp];omega) (by decide);rw[em]at gX;have cx:=ih _ (Zk hlt);have gX':=gX (.cells 51 (V.cells l[j]));have hL2:=hL' (.cells 51 (V.cells l[j])) (avl (V.cellsD _));have hX':=hX [] (.cells 51 (V.cells l[j])) rfl;simp only[Zw]at hX';clear hX gX hL' em ih;obtain⟨v,hv⟩:=Ex (l[j]);rw[hv]at hf cx hX' hL2;rw[hv]at gX';obtain⟨F2,hF2⟩:=Ex (F (.cells 51 v.cells));rw[hF2]at hX' hL2 gX';clear hF2 hv;obtain⟨k,nn,ss,is,ks⟩:=v;rw[V_A]at cx;simp only[V.cells]at hf cx hX';refine azq (ai ht (ai hf hX')) (ai cx ti) ?_;exact⟨_,by omega,j+1,F2,i',n',rfl,by omega,rfl,gX',hL2,by(exact azy (ai ht hf))⟩
 have hf:=avi V.cells l j hge;rw[ZJ hge]at hg;refine azq (ai ht hf) ti ?_;exact⟨_,le_refl _,L,rfl,hg,hL⟩
theorem LocL.ren{L:List Blk}(h:LocL L)(σ:Nat->Nat):L.map (Blk.ren σ)=L:=by
 conv=>rhs;rw[<-List.map_id L]
 refine List.map_congr_left fun b hb=>?_
 rcases h b hb with h|rfl
 ·exact(Blk.loc0 0 b h).2 σ
 ·rfl
theorem cz5(l:List V)(hn:l.length<=2000000)(ih:∀v∈l,∀h,AT 66 [v.A] h (v.A))(h:Hp):
  AC 100 [.sl 5 .no (V.cellss l)] h fun v h'=>∃L,h'=⟨h.b++L,h.t⟩/\Grw h.b.length 5 51 L (V.cellss l) v/\LocL L:=by
 refine(ACall.fresh (bjr l hn ih) ?_ (by simp[A.pure,A.data]) h).mono ?_
 ·rintro v h' ⟨L,rfl,hg,hL⟩;refine⟨?_,fun b hb=>(hL b hb).imp (fun h=>(Blk.loc0 _ b h).1) id⟩;rcases hg with⟨_,rfl⟩|⟨k,rfl,hk⟩
  ·unfold A.loc;rfl
  ·have:=(Zb.1 hk).1;unfold A.loc;simp;omega
 ·rintro v h' ⟨v0,⟨b0,t0⟩,⟨L,e,hg,hL⟩,rfl,rfl⟩;injection e with e1 e2;subst e1;refine⟨b0,by rw[hL.ren],?_,hL⟩;rcases hg with⟨h1,rfl⟩|⟨k,rfl,hk⟩
  ·exact .inl ⟨h1,by unfold A.ren;rfl⟩
  ·exact .inr ⟨k,by rw[Yl];unfold A.ren;rfl,hk⟩
theorem cj0(l:List V)(hn:l.length<=2000000)(ih:∀v∈l,∀h,AT 66 [v.A] h (v.A))(h:Hp):
  AT 100 [.sl 5 .no (V.cellss l)] h (.sl 5 .no (V.cellss l)):=by
 by_cases h0:l=[]
 ·subst h0;refine pcall ?_ rfl (by simp[A.pure,A.data]) h;refine azc mixedT awl (by simp[aqy]) ?_;dsimp only[aqy];rw[show V.cellss []=[] by rw[V.cellss]];have z0:(((0:Nat):Int)==0)=true:=rfl;refine azq z0 ti ?_;exact⟨.sl 5 .no [],⟨rfl,.inr rfl,.inl rfl⟩,rfl⟩
 refine pcallv (ACall.mono (bjr l hn ih) ?_) (by simp[A.pure,A.data]) h;rintro v h' ⟨L,rfl,hg,_⟩;obtain⟨hW,hd⟩:=axl l;rcases hg with⟨h1,_⟩|⟨k,rfl,hk⟩
 ·rw[V.cellss_map,List.map_eq_nil_iff]at h1;exact absurd h1 h0
 ·exact .one (.inr ⟨_,_,_,V.cellss l,rfl,by rw[Yl];exact hk,rfl,hW,hd⟩)
theorem awd:∀v:V,v.few->∀h,AT 66 [v.A] h (v.A):=by
 refine V.induct ?_;intro k n s is ks ih hfew h;unfold V.few at hfew;obtain⟨hl1,hl2,hfs⟩:=hfew;have ck:=cwy ks (by omega);have cp:=cj0 is hl1 fun v hv=>ih v hv (V.fews_mem hfs v hv)
 have hVA:(V.mk k n s is ks).A=.agg [.int .i64 k,.int .i64 n,.str s,.sl 5 .no (V.cellss is),.sl 1 .no (strsA ks)]:=by simp only[V.A,V.cells]
 rw[hVA];refine pcall ?_ rfl (by simp[A.pure,A.data]) h;refine azc mixedT ayd (by simp[aq3]) ?_;dsimp only[aq3];refine azq ti (ai ck (ai cp ti)) ?_;exact Fn rfl
theorem czx(k n:Int)(s:List UInt8)(is:List V)(ks:List (List UInt8))(hi:is≠[])(hk:ks≠[])(hf:(V.mk k n s is ks).few)(h:Hp):
  AC 66 [(V.mk k n s is ks).A] h fun v h'=>∃(L:List Blk) (i j:Nat),h'=⟨h.b++L,h.t⟩/\v=.agg [.int .i64 k,.int .i64 n,.str s,.bs i 5 is.length,.bs j 1 ks.length] /\
   (h.b++L)[i]?=some (.row 51 (V.cellss is).flatten)/\(h.b++L)[j]?=some (.row 9 (strsA ks).flatten)/\h.b.length<=i/\h.b.length<=j:=by
 unfold V.few at hf;obtain⟨hl1,hl2,hfs⟩:=hf;have lk:=aze ks;have li:=V.cellss_length is;have ck:=fun h=>akd .no (strsA ks) (by intro e;rw[e]at lk;exact hk (YU.1 lk.symm)) (by omega) (by unfold maxLen;omega) h
 have cp:=fun h=>cz5 is hl1 (fun v hv=>awd v (V.fews_mem hfs v hv)) h
 have hVA:(V.mk k n s is ks).A=.agg [.int .i64 k,.int .i64 n,.str s,.sl 5 .no (V.cellss is),.sl 1 .no (strsA ks)]:=by simp only[V.A,V.cells]
 rw[hVA];have key:AC 66 [.agg [.int .i64 k,.int .i64 n,.str s,.sl 5 .no (V.cellss is),.sl 1 .no (strsA ks)]] ⟨[],[]⟩ fun v h'=>∃(b0 b1:Blk) (L:List Blk) (q:Nat),h'=⟨b0::b1 :: .row 9 (strsA ks).flatten::L,[]⟩/\v=.agg [.int .i64 k,.int .i64 n,.str s,.bs (3+q) 5 is.length,.bs 2 1 ks.length]/\L[q]?=some (.row 51 (V.cellss is).flatten)/\LocL L/\b0.loc (3+L.length)/\b1.loc (3+L.length):=by
  rw[lk]at ck;refine azc mixedT ayd (by simp[aq3]) ?_;dsimp only[aq3];refine go0 ti ?_;refine gc0 ti ?_;refine(ck _).mono ?_;rintro v h' ⟨rfl,rfl⟩;refine go0 ti ?_;refine gc0 ti ?_;refine(cp _).mono ?_;rintro v h' ⟨L,rfl,hg,hL⟩;simp only[ZD,Zw,Zg,Zq];rcases hg with⟨h1,_⟩|⟨q,rfl,hq⟩
  ·rw[h1]at li;exact absurd (YU.1 li.symm) hi
  rw[li];refine go0 ti ?_;refine⟨_,le_refl _,_,_,L,q,rfl,rfl,hq,hL,?_,?_⟩
  ·have:=(Zb.1 hq).1;show A.locL _ _=true
   simp[A.locL,A.loc];omega
  ·have:=(Zb.1 hq).1;show A.locL _ _=true
   simp[A.locL,A.loc];omega
 refine(ACall.fresh key ?_ (by simp[A.pure,A.data]) h).mono ?_
 ·rintro v h' ⟨b0,b1,L,q,rfl,rfl,hq,hL,l0,l1⟩;have hq':=(Zb.1 hq).1;have hlen:(b0::b1::Blk.row 9 (strsA ks).flatten::L).length=3+L.length:=by simp only[Zg];omega
  dsimp only;rw[hlen];refine⟨by simp[A.loc,A.locL];omega,fun b hb=>?_⟩;rcases ZL.1 hb with rfl|hb
  ·exact .inl l0
  rcases ZL.1 hb with rfl|hb
  ·exact .inl l1
  rcases ZL.1 hb with rfl|hb
  ·exact .inl (Blk.loc0 _ (.row _ _) (avl (ajr ks).2.1)).1
  ·exact(hL b hb).imp (fun h=>(Blk.loc0 _ b h).1) id
 ·rintro v h' ⟨v0,⟨bb,tt⟩,⟨b0,b1,L,q,e,rfl,hq,hL,l0,l1⟩,rfl,rfl⟩;injection e with e1 e2;subst e1;have er:(Blk.row 9 (strsA ks).flatten).ren (fun i=>h.b.length+i)=.row 9 (strsA ks).flatten:=(Blk.loc0 0 (.row _ _) (avl (ajr ks).2.1)).2 _;simp only[ZO,hL.ren,er];refine⟨_,h.b.length+(3+q),h.b.length+2,rfl,by simp[A.ren,A.renL],?_,?_,by omega,by omega⟩
  ·rw[List.getElem?_append_right (by omega),show h.b.length+(3+q)-h.b.length=q+1+1+1 by omega];exact hq
  ·rw[List.getElem?_append_right (by omega),show h.b.length+2-h.b.length=2 by omega];rfl
end AX
end
section
open Go.RowKit
open Go.Op (bytesLess)
namespace AX
theorem cvp(a:List UInt8)(h:Hp):AT 137 [.str a] h (.bool false):=by
 have e:(a !=a)=false:=by simp
 refine pcall ?_ rfl rfl h;refine azc mixedT ckr (by simp[bq3]) ?_;dsimp only[bq3];refine azq e ti ?_;exact Fn rfl
theorem cx7(a b:List UInt8)(h:Hp):AT 101 [.str a,.str b] h (.bool (bytesLess a b)):=by
 have c:=cvp;refine pcall ?_ rfl rfl h;refine azc mixedT cx5 (by simp[ayi]) ?_;dsimp only[ayi];refine azq ti (ai c ti) ?_;exact Fn rfl
section
variable {h:Hp}
theorem dxi{k:Nat}{ks:List (List UInt8)}(hk:h.b[k]?=some (.row 9 (strsA ks).flatten))(key:List UInt8)(hl:∀s∈ks,bytesLess s key=true)(hn:ks.length<=1000000):
  AT 67 [.bs k 1 ks.length,.str key] h (.tup [.int .i64 (ks.length:Nat),.bool false]):=by
 have cl:=fun a=>cx7 a key
 have hrow:=(ajr ks).2.2;have hlen:=bjw ks;obtain⟨F,hF⟩:=Ex ((strsA ks).flatten);rw[hF]at hrow hlen hk;clear hF;refine fo ?_;refine azq ti ti ?_
 refine azg (fun m ts hh=>∃i:Nat,m=ks.length-i/\i<=ks.length/\hh=h /\
  (ts 0=.bs k 1 ks.length/\ts 1=.str key/\ts 6=.int .i64 (ks.length:Nat)/\ts 7=.int .i64 (i:Nat)/\ts 8=.int .i64 (ks.length:Nat))) ks.length ?_ ?_
 ·exact⟨0,rfl,ZH _,rfl,by(exact azy ti)⟩
 rintro m ts hh ⟨i,rfl,hil,rfl,ht⟩;rcases Yd i ks.length with hlt|hge
 ·have hf:(i:Int)<(ks.length:Int):=by omega
  obtain⟨e1,e2,e3,e4,e5⟩:=bx4 hlt (Ze _) hn;obtain⟨q,hq⟩:=Ex ((i+ks.length)/2);have hk1:i<=q/\q<ks.length:=by omega
  rw[hq]at e3 e4 e5;have hki:(q:Int)<(ks.length:Int):=by omega
  have g1:q+1<=F.length:=by omega
  have g2:=hrow q hk1.2;have hle:=hl _ (Zk hk1.2);obtain⟨x,hx⟩:=Ex (ks[q]);rw[hx]at g2 hle;have cx:=cl x;rw[hle]at cx;clear hx hrow hl cl;refine azq (ai ht (ai hf (ai e1 (ai e2 (ai e3 (ai e4 (ai e5 (ai g1 (ai g2 (ai hk (ai hki Nat.mul_one))))))))))) (ai cx ti) ?_;exact⟨_,by omega,q+1,rfl,by omega,rfl,by(exact azy (ai ht e5))⟩
 ·have hf:¬(i:Int)<(ks.length:Int):=by omega
  obtain rfl:i=ks.length:=by omega
  refine azq (ai ht hf) ti ?_;exact⟨_,le_refl _,rfl,rfl⟩
theorem ckp(key:List UInt8):AT 67 [.sl 0 .nil [],.str key] h (.tup [.int .i64 (0:Nat),.bool false]):=by
 have e0:¬(0:Int)<((0:Nat):Int):=by decide
 refine fo ?_;refine azq ti ti ?_;refine aj6 ?_;refine azq e0 ti ?_;exact⟨_,le_refl _,rfl,rfl⟩
theorem cvv{k n:Nat}{F:List A}(hk:h.b[k]?=some (.row 9 F))(hF:F.length=n)(hn:n<=1000000)(key:List UInt8):
  AC 68 [.bs k 1 n,.int .i64 (n:Nat),.sl 1 .no [[.str key]]] h fun v h'=>v=.bs h.b.length 1 (n+1)/\h'=⟨h.b.set k .gone++[.row 9 (F++[.str key])],h.t⟩:=by
 have hX:appB h 9 1 16 (.bs k 1 n) (.sl 1 .no [[.str key]])=some (.bs h.b.length 1 (n+1),⟨h.b.set k .gone++[.row 9 (F++[.str key])],h.t⟩):=by
  simp only[appB,rowC,if_true,Zg,Zq,ZV,List.flatten_nil,Zx,hk];rw[if_pos (by omega),if_pos ⟨trivial,by unfold maxLen;omega,by omega⟩,if_pos ⟨trivial,by omega⟩,ZJ (by omega)]
 have e1:(((1:Nat):Int)==0)=false:=rfl;have e2:((n:Int)==(n:Int))=true:=by simp
 have hS:sslA 1 (some (.int .i64 (n:Int))) none (.bs k 1 n)=some (.sl 1 .no []):=by simp[sslA]
 refine azc mixedT bww (by simp[ava]) ?_;dsimp only[ava];refine azq (ai e1 (ai e2 (ai hS hX))) ti ?_;exact⟨_,le_refl _,rfl,rfl⟩
theorem cx1(key:List UInt8):
  AC 68 [.sl 0 .nil [],.int .i64 (0:Nat),.sl 1 .no [[.str key]]] h fun v h'=>v=.bs h.b.length 1 1/\h'=⟨h.b++[.row 9 [.str key]],h.t⟩:=by
 have hX:appB h 9 1 16 (.sl 0 .nil []) (.sl 1 .no [[.str key]])=some (.bs h.b.length 1 1,⟨h.b++[.row 9 [.str key]],h.t⟩):=by
  simp only[appB,rowC,if_true,Zg,Zq,ZV,List.flatten_nil,Zx];rw[if_pos (by omega),if_pos ⟨by unfold maxLen;omega,by omega⟩]
 have e1:(((1:Nat):Int)==0)=false:=rfl;have e2:(((0:Nat):Int)==((0:Nat):Int))=true:=rfl;have hS:sslA 1 (some (.int .i64 ((0:Nat):Int))) none (.sl 0 .nil [])=some (.sl 1 .no []):=by simp[sslA]
 refine azc mixedT bww (by simp[ava]) ?_;dsimp only[ava];refine azq (ai e1 (ai e2 (ai hS hX))) ti ?_;exact⟨_,le_refl _,rfl,rfl⟩
theorem ckk{k n W0:Nat}{F x:List A}{o:Own}(hk:h.b[k]?=some (.row 51 F))(hF:F.length=n*5)(hn:n<=1000000):
  AC 69 [.bs k 5 n,.int .i64 (n:Nat),.sl 5 o [x]] h fun v h'=>v=.bs h.b.length 5 (n+1)/\h'=⟨h.b.set k .gone++[.row 51 (F++x)],h.t⟩:=by
 have hX:appB h 51 5 80 (.bs k 5 n) (.sl 5 o [x])=some (.bs h.b.length 5 (n+1),⟨h.b.set k .gone++[.row 51 (F++x)],h.t⟩):=by
  simp only[appB,rowC,if_true,Zg,Zq,ZV,List.flatten_nil,Zx,hk];rw[if_pos (by omega),if_pos ⟨trivial,by unfold maxLen;omega,by omega⟩,if_pos ⟨trivial,by omega⟩,ZJ (by omega)]
 have e1:(((1:Nat):Int)==0)=false:=rfl;have e2:((n:Int)==(n:Int))=true:=by simp
 have hS:sslA 5 (some (.int .i64 (n:Int))) none (.bs k 5 n)=some (.sl 5 .no []):=by simp[sslA]
 refine azc mixedT bw9 (by simp[avm]) ?_;dsimp only[avm];refine azq (ai e1 (ai e2 (ai hS hX))) ti ?_;exact⟨_,le_refl _,rfl,rfl⟩
theorem cxl{x:List A}{o:Own}:
  AC 69 [.sl 0 .nil [],.int .i64 (0:Nat),.sl 5 o [x]] h fun v h'=>v=.bs h.b.length 5 1/\h'=⟨h.b++[.row 51 x],h.t⟩:=by
 have hX:appB h 51 5 80 (.sl 0 .nil []) (.sl 5 o [x])=some (.bs h.b.length 5 1,⟨h.b++[.row 51 x],h.t⟩):=by
  simp only[appB,rowC,if_true,Zg,Zq,ZV,List.flatten_nil,Zx];rw[if_pos (by omega),if_pos ⟨by unfold maxLen;omega,by omega⟩]
 have e1:(((1:Nat):Int)==0)=false:=rfl;have e2:(((0:Nat):Int)==((0:Nat):Int))=true:=rfl;have hS:sslA 5 (some (.int .i64 ((0:Nat):Int))) none (.sl 0 .nil [])=some (.sl 5 .no []):=by simp[sslA]
 refine azc mixedT bw9 (by simp[avm]) ?_;dsimp only[avm];refine azq (ai e1 (ai e2 (ai hS hX))) ti ?_;exact⟨_,le_refl _,rfl,rfl⟩
end
end AX
end
section
open Go.RowKit
open Go.Op (bytesLess)
namespace AX
theorem czc(h:Hp):AT 66 [.agg [.int .i64 5,.int .i64 0,.str [],.sl 0 .nil [],.sl 0 .nil []]] h (.agg [.int .i64 5,.int .i64 0,.str [],.sl 0 .nil [],.sl 0 .nil []]):=by
 have ck:=fun h=>a_clone_strs_nil 0 h
 have cp:∀h,AT 100 [.sl 0 .nil []] h (.sl 0 .nil []):=fun h=>by
  refine pcall ?_ rfl rfl h;refine azc mixedT awl (by simp[aqy]) ?_;dsimp only[aqy];have z0:(((0:Nat):Int)==0)=true:=rfl;refine azq z0 ti ?_;exact Fn rfl
 refine pcall ?_ rfl rfl h;refine azc mixedT ayd (by simp[aq3]) ?_;dsimp only[aq3];refine azq ti (ai ck (ai cp ti)) ?_;exact Fn rfl
theorem dqf(key:List UInt8)(x:V)(hx:x.few)(h:Hp):
  AT 41 [.agg [.int .i64 5,.int .i64 0,.str [],.sl 0 .nil [],.sl 0 .nil []],.str key,x.A] h ((V.mk 5 0 [] [x] [key]).A):=by
 have c1:=czc;have c2:=fun h=>@ckp h key
 have c3:=fun h=>@cx1 h key
 have c4:=fun h=>@cxl h [.int .i64 0,.int .i64 0,.str [],.sl 0 .nil [],.sl 0 .nil []] (.tok 0)
 have c5:=awd x hx;have hVA:(V.mk 5 0 [] [x] [key]).A=.agg [.int .i64 5,.int .i64 0,.str [],.sl 5 .no [x.cells],.sl 1 .no [[.str key]]]:=by simp only[V.A,V.cells,V.cellss,strsA,ZO,Z6]
 rw[hVA];clear hVA hx;obtain⟨k,n,s,is,ks⟩:=x;simp only[V.A,V.cells]at c5⊢;refine pcallv ?_ (by simp[A.pure,A.data]) h;refine fo ?_;have z1:¬(0:Int)>((0:Nat):Int):=by decide
 have z2:¬((0:Nat):Int)>((0:Nat):Int):=by decide
 have z3:(((0:Nat):Int)==((0:Nat):Int))=true:=rfl;have z4:((0:Nat):Int)<((1:Nat):Int):=by decide
 have z5:0*5+5<=5:=by decide
 refine azq (ai z1 (ai z2 z3)) (ai c1 (ai c2 (ai c3 (ai c4 ti)))) ?_;refine azq (ai z1 (ai z2 (ai z3 (ai z4 z5)))) (ai c5 ti) ?_;exact⟨_,le_refl _,.agg ⟨.inl ⟨rfl,rfl⟩,.inl ⟨rfl,rfl⟩,.inl ⟨rfl,rfl⟩,.inr ⟨_,5,_,[[.int .i64 k,.int .i64 n,.str s,.sl 5 .no (V.cellss is),.sl 1 .no (strsA ks)]],rfl,rfl,rfl,fun r hr=>by rw[Zy.1 hr];rfl,rfl⟩,.inr ⟨_,1,_,[[.str key]],rfl,rfl,rfl,fun r hr=>by rw[Zy.1 hr];rfl,rfl⟩,trivial⟩⟩
theorem akq:∀(xs F z:List A),z.length=xs.length->setCells (F++z) F.length xs=F++xs
 |[],F,z,h=>by
  have:z=[]:=YU.1 h;subst this;rfl
 |x::xs,F,[],h=>by cases h
 |x::xs,F,y::z,h=>by
  unfold setCells;have e1:(F++y::z).set F.length x=(F++[x])++z:=by rw[List.set_append_right _ _ (Ze _),Nat.sub_self];simp
  rw[e1,show F.length+1=(F++[x]).length by simp,akq xs (F++[x]) z (by simpa using h)];simp
theorem dze(is:List V)(ks:List (List UInt8))(key:List UInt8)(x:V)(hi:is≠[])(hik:is.length=ks.length)(hf:(V.mk 5 0 [] is ks).few)(hx:x.few)(hl:∀s∈ks,bytesLess s key=true)(hn:ks.length<=100000)(h:Hp):
  AT 41 [(V.mk 5 0 [] is ks).A,.str key,x.A] h ((V.mk 5 0 [] (is++[x]) (ks++[key])).A):=by
 have hk:ks≠[]:=fun e=>hi (YU.1 (by rw[hik,e];rfl))
 have c1:=czx 5 0 [] is ks hi hk hf;have c5:=awd x hx;have hVA:(V.mk 5 0 [] is ks).A=.agg [.int .i64 5,.int .i64 0,.str [],.sl 5 .no (V.cellss is),.sl 1 .no (strsA ks)]:=by simp only[V.A,V.cells]
 have hVB:(V.mk 5 0 [] (is++[x]) (ks++[key])).A=.agg [.int .i64 5,.int .i64 0,.str [],.sl 5 .no (V.cellss is++[x.cells]),.sl 1 .no (strsA ks++[[.str key]])]:=by simp only[V.A,V.cells,V.cellss_map,strsA,YL,ZO,Z6]
 rw[hVA]at c1⊢;rw[hVB];rw[hik]at c1;clear hVA hVB hx hf;have hxl:=V.cells_len5 x;have hxd:=V.cellsD x;have hVx:x.A=.agg x.cells:=V_A x;obtain⟨N,hN⟩:=Ex (ks.length);have FK1:=bjw ks;have FI1:=axt (axl is).1;rw[V.cellss_length,hik]at FI1;rw[hN]at c1 hn FK1 FI1;have hN0:0<N:=by rw[<-hN];exact Yz.2 hk
 obtain⟨k,n,s,xs,xk⟩:=x;simp only[V.A,V.cells]at c5 hxl hxd⊢;refine pcallv ?_ (by simp[A.pure,A.data]) h;refine fo ?_;refine go0 ti ?_;refine gc0 ti ?_;refine(c1 _).mono ?_;rintro v h' ⟨L,i,j,rfl,rfl,hgi,hgj,hi3,hj3⟩;simp only[ZD,Zw,Zg,Zq]at hgi hgj hi3 hj3⊢;obtain⟨FI,hFI⟩:=Ex ((V.cellss is).flatten);obtain⟨FK,hFK⟩:=Ex ((strsA ks).flatten);rw[hFI]at hgi FI1;have hij:i≠j:=fun e=>by rw[e,hgj]at hgi;injection hgi with e1;injection e1 with e1 _;exact absurd e1 (by decide)
 have c2:=fun h (hk:h.b[j]?=_)=>dxi (h:=h) (k:=j) (ks:=ks) hk key hl (by omega)
 rw[hN]at c2;rw[hFK]at hgj FK1 c2;obtain⟨B,hB⟩:∃B:List Blk,(.cells 51 [.int .i64 5,.int .i64 0,.str [],.sl 5 .no (V.cellss is),.sl 1 .no (strsA ks)] :: .cells 51 [.int .i64 k,.int .i64 n,.str s,.sl 5 .no (V.cellss xs),.sl 1 .no (strsA xk)] :: .cells 51 [.int .i64 0,.int .i64 0,.str [],.sl 0 .nil [],.sl 0 .nil []]::L:List Blk)=B:=⟨_,rfl⟩;have hB1:B[1]?=some (.cells 51 [.int .i64 k,.int .i64 n,.str s,.sl 5 .no (V.cellss xs),.sl 1 .no (strsA xk)]):=by rw[<-hB];rfl
 have hB2:B[2]?=some (.cells 51 [.int .i64 0,.int .i64 0,.str [],.sl 0 .nil [],.sl 0 .nil []]):=by rw[<-hB];rfl
 rw[hB]at hgi hgj⊢;clear hB c1;have hin:=(Zb.1 hgi).1;have hjn:=(Zb.1 hgj).1;obtain⟨n0,hn0⟩:=Ex (B.length);rw[hn0]at hin hjn;have hs1:setCells (FI++[.int .i64 0,.int .i64 0,.str [],.sl 0 .nil [],.sl 0 .nil []]) (N*5) [.int .i64 k,.int .i64 n,.str s,.sl 5 .no (V.cellss xs),.sl 1 .no (strsA xk)]=FI++[.int .i64 k,.int .i64 n,.str s,.sl 5 .no (V.cellss xs),.sl 1 .no (strsA xk)]:=by rw[<-FI1];exact akq _ _ _ rfl
 simp only[setCells]at hs1;have hle:N*5+5<=(FI++[A.int .i64 0,.int .i64 0,.str [],.sl 0 .nil [],.sl 0 .nil []]).length:=by rw[Za,FI1];exact Ze _
 have z1:¬(N:Int)>(N:Int):=by omega
 have z2:((N:Int)==(N:Int))=true:=by simp
 have z3:(0:Int)<=(N:Int)/\(N:Int)<((N+1:Nat):Int):=by omega
 obtain⟨B',hB'⟩:=Ex (B++[.cells 51 [.int .i64 5,.int .i64 0,.str [],.bs i 5 N,.bs j 1 N]]);have f0:(B++[Blk.cells 51 [.int .i64 0,.int .i64 0,.str [],.sl 0 .nil [],.sl 0 .nil []]])[n0]?=some (.cells 51 [.int .i64 0,.int .i64 0,.str [],.sl 0 .nil [],.sl 0 .nil []]):=aqa hn0.symm;have f1:(B++[Blk.cells 51 [.int .i64 0,.int .i64 0,.str [],.sl 0 .nil [],.sl 0 .nil []]]).set n0 (.cells 51 [.int .i64 5,.int .i64 0,.str [],.bs i 5 N,.bs j 1 N])=B':=by
  rw[<-hB',<-hn0,List.set_append_right _ _ (Ze _),Nat.sub_self];rfl
 have p1:B'[j]?=some (.row 9 FK):=by rw[<-hB'];exact azd hgj _
 have p2:B'[n0]?=some (.cells 51 [.int .i64 5,.int .i64 0,.str [],.bs i 5 N,.bs j 1 N]):=by rw[<-hB'];exact aqa hn0.symm
 have p3:B'[i]?=some (.row 51 FI):=by rw[<-hB'];exact azd hgi _
 have p4:B'[1]?=some (.cells 51 [.int .i64 k,.int .i64 n,.str s,.sl 5 .no (V.cellss xs),.sl 1 .no (strsA xk)]):=by rw[<-hB'];exact azd hB1 _
 have p5:B'[2]?=some (.cells 51 [.int .i64 0,.int .i64 0,.str [],.sl 0 .nil [],.sl 0 .nil []]):=by rw[<-hB'];exact azd hB2 _
 have p6:B'.length=n0+1:=by rw[<-hB',Za,hn0];rfl
 have c2':=c2 ⟨B',[]⟩ p1;have c3:=fun t=>cvv (h:=⟨B',t⟩) p1 FK1 (by omega) key
 obtain⟨B2,hB2'⟩:=Ex (B'.set j .gone++[.row 9 (FK++[.str key])]);simp only[hB2',p6]at c3;have q2:B2[n0]?=some (.cells 51 [.int .i64 5,.int .i64 0,.str [],.bs i 5 N,.bs j 1 N]):=by rw[<-hB2'];exact azd ((azt (by omega)).trans p2) _
 have q3:B2[i]?=some (.row 51 FI):=by rw[<-hB2'];exact azd ((azt (Ne.symm hij)).trans p3) _
 have q4:B2[1]?=some (.cells 51 [.int .i64 k,.int .i64 n,.str s,.sl 5 .no (V.cellss xs),.sl 1 .no (strsA xk)]):=by rw[<-hB2'];exact azd ((azt (by omega)).trans p4) _
 have q5:B2[2]?=some (.cells 51 [.int .i64 0,.int .i64 0,.str [],.sl 0 .nil [],.sl 0 .nil []]):=by rw[<-hB2'];exact azd ((azt (by omega)).trans p5) _
 have q6:B2.length=n0+2:=by rw[<-hB2',Za,Zz,p6];rfl
 have q7:B2[n0+1]?=some (.row 9 (FK++[.str key])):=by rw[<-hB2'];exact aqa (by rw[Zz,p6])
 obtain⟨B3,hB3⟩:=Ex (B2.set n0 (.cells 51 [.int .i64 5,.int .i64 0,.str [],.bs i 5 N,.bs (n0+1) 1 (N+1)]));have r2:B3[n0]?=some (.cells 51 [.int .i64 5,.int .i64 0,.str [],.bs i 5 N,.bs (n0+1) 1 (N+1)]):=by rw[<-hB3];exact ajh q2
 have r3:B3[i]?=some (.row 51 FI):=by rw[<-hB3];exact(azt (by omega)).trans q3
 have r4:B3[1]?=some (.cells 51 [.int .i64 k,.int .i64 n,.str s,.sl 5 .no (V.cellss xs),.sl 1 .no (strsA xk)]):=by rw[<-hB3];exact(azt (by omega)).trans q4
 have r5:B3[2]?=some (.cells 51 [.int .i64 0,.int .i64 0,.str [],.sl 0 .nil [],.sl 0 .nil []]):=by rw[<-hB3];exact(azt (by omega)).trans q5
 have r6:B3.length=n0+2:=by rw[<-hB3,Zz,q6]
 have r7:B3[n0+1]?=some (.row 9 (FK++[.str key])):=by rw[<-hB3];exact(azt (by omega)).trans q7
 have c4:=fun t o=>ckk (h:=⟨B3,t⟩) (o:=o) (W0:=0) (x:=[.int .i64 0,.int .i64 0,.str [],.sl 0 .nil [],.sl 0 .nil []]) r3 FI1 (by omega)
 obtain⟨B4,hB4⟩:=Ex (B3.set i .gone++[.row 51 (FI++[.int .i64 0,.int .i64 0,.str [],.sl 0 .nil [],.sl 0 .nil []])]);simp only[hB4,r6]at c4;have s2:B4[n0]?=some (.cells 51 [.int .i64 5,.int .i64 0,.str [],.bs i 5 N,.bs (n0+1) 1 (N+1)]):=by rw[<-hB4];exact azd ((azt (by omega)).trans r2) _
 have s4:B4[1]?=some (.cells 51 [.int .i64 k,.int .i64 n,.str s,.sl 5 .no (V.cellss xs),.sl 1 .no (strsA xk)]):=by rw[<-hB4];exact azd ((azt (by omega)).trans r4) _
 have s5:B4[2]?=some (.cells 51 [.int .i64 0,.int .i64 0,.str [],.sl 0 .nil [],.sl 0 .nil []]):=by rw[<-hB4];exact azd ((azt (by omega)).trans r5) _
 have s7:B4[n0+1]?=some (.row 9 (FK++[.str key])):=by rw[<-hB4];exact azd ((azt (by omega)).trans r7) _
 have s8:B4[n0+2]?=some (.row 51 (FI++[.int .i64 0,.int .i64 0,.str [],.sl 0 .nil [],.sl 0 .nil []])):=by rw[<-hB4];exact aqa (by rw[Zz,r6])
 obtain⟨B5,hB5⟩:=Ex (B4.set n0 (.cells 51 [.int .i64 5,.int .i64 0,.str [],.bs (n0+2) 5 (N+1),.bs (n0+1) 1 (N+1)]));have t2:B5[n0]?=some (.cells 51 [.int .i64 5,.int .i64 0,.str [],.bs (n0+2) 5 (N+1),.bs (n0+1) 1 (N+1)]):=by rw[<-hB5];exact ajh s2
 have t4:B5[1]?=some (.cells 51 [.int .i64 k,.int .i64 n,.str s,.sl 5 .no (V.cellss xs),.sl 1 .no (strsA xk)]):=by rw[<-hB5];exact(azt (by omega)).trans s4
 have t5:B5[2]?=some (.cells 51 [.int .i64 0,.int .i64 0,.str [],.sl 0 .nil [],.sl 0 .nil []]):=by rw[<-hB5];exact(azt (by omega)).trans s5
 have t7:B5[n0+1]?=some (.row 9 (FK++[.str key])):=by rw[<-hB5];exact(azt (by omega)).trans s7
 have t8:B5[n0+2]?=some (.row 51 (FI++[.int .i64 0,.int .i64 0,.str [],.sl 0 .nil [],.sl 0 .nil []])):=by rw[<-hB5];exact(azt (by omega)).trans s8
 obtain⟨B6,hB6⟩:=Ex (B5.set (n0+2) (.row 51 (FI++[.int .i64 k,.int .i64 n,.str s,.sl 5 .no (V.cellss xs),.sl 1 .no (strsA xk)])));have u2:B6[n0]?=some (.cells 51 [.int .i64 5,.int .i64 0,.str [],.bs (n0+2) 5 (N+1),.bs (n0+1) 1 (N+1)]):=by rw[<-hB6];exact(azt (by omega)).trans t2
 have u5:B6[2]?=some (.cells 51 [.int .i64 0,.int .i64 0,.str [],.sl 0 .nil [],.sl 0 .nil []]):=by rw[<-hB6];exact(azt (by omega)).trans t5
 have u7:B6[n0+1]?=some (.row 9 (FK++[.str key])):=by rw[<-hB6];exact(azt (by omega)).trans t7
 have u8:B6[n0+2]?=some (.row 51 (FI++[.int .i64 k,.int .i64 n,.str s,.sl 5 .no (V.cellss xs),.sl 1 .no (strsA xk)])):=by rw[<-hB6];exact ajh t8
 obtain⟨B7,hB7⟩:=Ex (B6.set 2 (.cells 51 [.int .i64 5,.int .i64 0,.str [],.bs (n0+2) 5 (N+1),.bs (n0+1) 1 (N+1)]));have v5:B7[2]?=some (.cells 51 [.int .i64 5,.int .i64 0,.str [],.bs (n0+2) 5 (N+1),.bs (n0+1) 1 (N+1)]):=by rw[<-hB7];exact ajh u5
 have v7:B7[n0+1]?=some (.row 9 (FK++[.str key])):=by rw[<-hB7];exact(azt (by omega)).trans u7
 have v8:B7[n0+2]?=some (.row 51 (FI++[.int .i64 k,.int .i64 n,.str s,.sl 5 .no (V.cellss xs),.sl 1 .no (strsA xk)])):=by rw[<-hB7];exact(azt (by omega)).trans u8
 clear hgi hgj hB1 hB2 p1 p3 p4 p5 q3 q4 q5 q7 r3 r4 r5 r7 s4 s5 s7 t7 u7 c2 hl;refine go0 (ai hn0 (ai f0 (ai f1 p2))) ?_;refine gc0 (ai hn0 (ai f0 (ai f1 p2))) ?_;refine c2'.mono ?_;rintro v h' ⟨rfl,rfl⟩;refine go0 (ai hB2' (ai hB3 (ai hB4 (ai hB5 (ai hB6 (ai hB7 (ai p2 (ai p6 (ai z1 (ai z2 (ai z3 (ai q2 (ai r2 (ai r6 (ai s2 (ai t2 (ai t4 (ai t5 (ai t8 (ai u2 (ai u5 (ai v5 (ai hle hs1))))))))))))))))))))))) ?_;refine gc0 (ai hB2' (ai hB3 (ai hB4 (ai hB5 (ai hB6 (ai hB7 (ai p2 (ai p6 (ai z1 (ai z2 (ai z3 (ai q2 (ai r2 (ai r6 (ai s2 (ai t2 (ai t4 (ai t5 (ai t8 (ai u2 (ai u5 (ai v5 (ai hle hs1))))))))))))))))))))))) ?_;refine(c3 _).mono ?_;rintro v h' ⟨rfl,rfl⟩;refine go0 (ai hB2' (ai hB3 (ai hB4 (ai hB5 (ai hB6 (ai hB7 (ai p2 (ai p6 (ai z1 (ai z2 (ai z3 (ai q2 (ai r2 (ai r6 (ai s2 (ai t2 (ai t4 (ai t5 (ai t8 (ai u2 (ai u5 (ai v5 (ai hle hs1))))))))))))))))))))))) ?_;refine gc0 (ai hB2' (ai hB3 (ai hB4 (ai hB5 (ai hB6 (ai hB7 (ai p2 (ai p6 (ai z1 (ai z2 (ai z3 (ai q2 (ai r2 (ai r6 (ai s2 (ai t2 (ai t4 (ai t5 (ai t8 (ai u2 (ai u5 (ai v5 (ai hle hs1))))))))))))))))))))))) ?_;refine(c4 _ _).mono ?_;rintro v h' ⟨rfl,rfl⟩;refine go0 (ai hB2' (ai hB3 (ai hB4 (ai hB5 (ai hB6 (ai hB7 (ai p2 (ai p6 (ai z1 (ai z2 (ai z3 (ai q2 (ai r2 (ai r6 (ai s2 (ai t2 (ai t4 (ai t5 (ai t8 (ai u2 (ai u5 (ai v5 (ai hle hs1))))))))))))))))))))))) ?_;refine azq (ai hB2' (ai hB3 (ai hB4 (ai hB5 (ai hB6 (ai hB7 (ai p2 (ai p6 (ai z1 (ai z2 (ai z3 (ai q2 (ai r2 (ai r6 (ai s2 (ai t2 (ai t4 (ai t5 (ai t8 (ai u2 (ai u5 (ai v5 (ai FI1 hs1))))))))))))))))))))))) ti ?_;refine use (c5 _) ?_ (hm:=⟨fun e=>absurd e (by decide),fun _=>czz t2⟩);refine azq (ai hB2' (ai hB3 (ai hB4 (ai hB5 (ai hB6 (ai hB7 (ai p2 (ai p6 (ai z1 (ai z2 (ai z3 (ai q2 (ai r2 (ai r6 (ai s2 (ai t2 (ai t4 (ai t5 (ai t8 (ai u2 (ai u5 (ai v5 (ai FI1 hs1))))))))))))))))))))))) ti ?_;refine⟨_,le_refl _,.agg ⟨.inl ⟨rfl,rfl⟩,.inl ⟨rfl,rfl⟩,.inl ⟨rfl,rfl⟩,.inr ⟨n0+2,5,51,V.cellss is++[[.int .i64 k,.int .i64 n,.str s,.sl 5 .no (V.cellss xs),.sl 1 .no (strsA xk)]],?_,?_,rfl,?_,?_⟩,.inr ⟨n0+1,1,9,strsA ks++[[.str key]],?_,?_,rfl,?_,?_⟩,trivial⟩⟩
 ·rw[Za,V.cellss_length,hik,hN];rfl
 ·rw[List.flatten_append,hFI];exact v8
 ·intro r hr;rcases Yb.1 hr with hr|hr
  ·exact(axl is).1 r hr
  ·rw[Zy.1 hr];rfl
 ·rw[List.flatten_append,List.all_append,(axl is).2];rfl
 ·rw[Za,aze,hN];rfl
 ·rw[List.flatten_append,hFK];exact v7
 ·intro r hr;rcases Yb.1 hr with hr|hr
  ·exact(ajr ks).1 r hr
  ·rw[Zy.1 hr];rfl
 ·rw[List.flatten_append,List.all_append,(ajr ks).2.1];rfl
def mapI(is:List V):A:=if is=[]then .sl 0 .nil []else .sl 5 .no (V.cellss is)
def mapK(ks:List (List UInt8)):A:=if ks=[]then .sl 0 .nil []else .sl 1 .no (strsA ks)
theorem cyd(is:List V)(ks:List (List UInt8))(key:List UInt8)(x:V)(hik:is.length=ks.length)(hf:(V.mk 5 0 [] is ks).few)(hx:x.few)(hl:∀s∈ks,bytesLess s key=true)(hn:ks.length<=100000)(h:Hp):
  AT 41 [.agg [.int .i64 5,.int .i64 0,.str [],mapI is,mapK ks],.str key,x.A] h (.agg [.int .i64 5,.int .i64 0,.str [],mapI (is++[x]),mapK (ks++[key])]):=by
 have e1:∀is:List V,is≠[]->mapI is=.sl 5 .no (V.cellss is):=fun is h=>if_neg h
 have e2:∀ks:List (List UInt8),ks≠[]->mapK ks=.sl 1 .no (strsA ks):=fun ks h=>if_neg h
 have hV:∀is ks,is≠[]->ks≠[]->(V.mk 5 0 [] is ks).A=.agg [.int .i64 5,.int .i64 0,.str [],mapI is,mapK ks]:=fun is ks h1 h2=>by rw[e1 is h1,e2 ks h2];simp only[V.A,V.cells]
 rw[<-hV (is++[x]) (ks++[key]) (by simp) (by simp)];by_cases h0:is=[]
 ·subst h0;obtain rfl:ks=[]:=YU.1 hik.symm;exact dqf key x hx h
 ·have hk:ks≠[]:=fun e=>h0 (YU.1 (by rw[hik,e];rfl))
  rw[<-hV is ks h0 hk];exact dze is ks key x h0 hik hf hx hl hn h
theorem ak5(is:List V):(mapI is).one=true/\(mapI is).data=true:=by unfold mapI;split<;>exact⟨rfl,rfl⟩
theorem akv(ks:List (List UInt8)):(mapK ks).one=true/\(mapK ks).data=true:=by unfold mapK;split<;>exact⟨rfl,rfl⟩
theorem cjm(is:List V)(ks:List (List UInt8)):leL [.int .i64 5,.int .i64 0,.str [],mapI is,mapK ks] [.int .i64 5,.int .i64 0,.str [],.sl 5 .no (V.cellss is),.sl 1 .no (strsA ks)]:=by
 refine⟨azf _,azf _,azf _,?_,?_,trivial⟩
 ·unfold mapI;split
  ·next h=>subst h;rw[V.cellss];exact⟨rfl,.inr rfl,.inl rfl⟩
  ·exact azf _
 ·unfold mapK;split
  ·next h=>subst h;exact⟨rfl,.inr rfl,.inl rfl⟩
  ·exact azf _
def outsV(os:List Sf.Outp):V:=.mk 5 0 [] (os.map (·.value)) (os.map (·.name))
structure OutsOk(os:List Sf.Outp):Prop where
 srt:os.Pairwise fun x y=>bytesLess x.name y.name=true
 few:∀o∈os,o.value.few
 len:os.length<=1000
theorem ak8:∀l:List V,(∀v∈l,v.few)->V.fews l
 |[],_=>by unfold V.fews;trivial
 |v::l,h=>by unfold V.fews;exact⟨h v Yo,ak8 l fun x hx=>h x (ZU _ hx)⟩
theorem bky{is:List V}{ks:List (List UInt8)}(h1:is.length<=2000000)(h2:ks.length<=2000000)(h3:∀v∈is,v.few):(V.mk 5 0 [] is ks).few:=by
 unfold V.few;exact⟨h1,h2,ak8 is h3⟩
theorem bjz{os:List Sf.Outp}(ok:OutsOk os):(outsV os).few:=by
 have:=ok.len;exact bky (by rw[Zj];omega) (by rw[Zj];omega) fun v hv=>by
  obtain⟨o,ho,rfl⟩:=Z4.1 hv;exact ok.few o ho
def av5:AX.AFn:=⟨22,aS [aR 1 (.box 42 (.t 0)),aR 2 (.alloc 51 [.int .i64 0,.int .i64 0,.str [],.sl 0 .nil [],.sl 0 .nil []])] (aS [aR 6 (.build [.int .i64 0,.int .i64 0,.str [],.sl 0 .nil [],.sl 0 .nil []] [(0,1,aI 5)]),aR 3 (.alloc 51 [.int .i64 0,.int .i64 0,.str [],.sl 0 .nil [],.sl 0 .nil []]),aU (.store 5 (.t 3) (.t 6))] (.seq (aS [aF 7 4 1,aL 8 7,aR 9 (.len false (.t 8)),aR 10 (.mv (aI 0))] (.block 0 (.loop (aS [aR 11 (.bin .lss (.t 10) (.t 9))] (.seq (.cond (.t 11) (.skip) (.exit 0)) (.seq (.block 1 (aS [aR 12 (.iaddr 7 (.t 8) (.t 10)),aR 13 (.load true 7 (.t 12)),aR 5 (.alloc 55 [.str [],.int .i64 0,.int .i64 0,.str [],.sl 0 .nil [],.sl 0 .nil [],.bool false]),aU (.store 7 (.t 5) (.t 13))] (.reg false [aR 14 (.load true 5 (.t 3)),aF 15 0 5,aL 16 15,aF 17 1 5,aR 18 (.load true 5 (.t 17)),aR 19 (.call 41 [.t 14,.t 16,.t 18]),aU (.store 5 (.t 3) (.t 19))]))) (.reg false [aR 20 (.bin .add (.t 10) (aI 1)),aM 10 20]))))))) (aS [aR 21 (.load true 5 (.t 3)),aU (.store 5 (.t 2) (.t 21))] (.ret)))),[.c 2 true 5]⟩
theorem by2:AX.compFn Tryz.prog 42=some av5:=by kernel_rfl
theorem byw(st:Sf.St)(ok:OutsOk st.outs)(h:Hp):AT 42 [st.A] h ((outsV st.outs).A):=by
 obtain⟨lin,ser,ins,ps,os⟩:=st;dsimp only at ok⊢;have hVA:(outsV os).A=.agg [.int .i64 5,.int .i64 0,.str [],.sl 5 .no (V.cellss (os.map (·.value))),.sl 1 .no (strsA (os.map (·.name)))]:=by simp only[outsV,V.A,V.cells]
 rw[hVA];simp only[Sf.St.A];refine pcall ?_ rfl (by simp[A.pure,A.data]) h;have lo:(os.map Sf.Outp.cells).length=os.length:=Zj _;have hlen:=ok.len;refine azc mixedT by2 (by simp[av5]) ?_;dsimp only[av5];refine azq lo ti ?_
 refine azg (fun m ts hh=>∃(j:Nat) (L:List Blk),m=os.length-j/\j<=os.length/\hh=⟨.cells 42 [.str lin,.int .i64 ser,.sl 13 .no (ins.map Sf.Inst.cells),.sl 3 .no (ps.map Sf.Pend.cells),.sl 7 .no (os.map Sf.Outp.cells)] :: .cells 51 [.int .i64 0,.int .i64 0,.str [],.sl 0 .nil [],.sl 0 .nil []] :: .cells 51 [.int .i64 5,.int .i64 0,.str [],mapI ((os.take j).map (·.value)),mapK ((os.take j).map (·.name))]::L,[]⟩ /\
  (ts 1=.ptr 0 0/\ts 2=.ptr 1 0/\ts 3=.ptr 2 0/\ts 8=.sl 7 .no (os.map Sf.Outp.cells)/\ts 9=.int .i64 (os.length:Nat)/\ts 10=.int .i64 (j:Nat))) os.length ?_ ?_
 ·exact⟨0,[],rfl,ZH _,rfl,by(exact azy lo)⟩
 rintro m ts hh ⟨j,L,rfl,hj,rfl,ht⟩;rcases Yd j os.length with hlt|hge
 ·have hf:=av6 Sf.Outp.cells os j hlt (by omega);have et:os.take (j+1)=os.take j++[os[j]]:=(List.take_append_getElem hlt).symm
  have cp:=cyd ((os.take j).map (·.value)) ((os.take j).map (·.name)) os[j].name os[j].value (by rw[Zj,Zj]) (bky (by rw[Zj,Zp];omega) (by rw[Zj,Zp];omega) fun v hv=>by
   obtain⟨o,ho,rfl⟩:=Z4.1 hv
   exact ok.few o (List.mem_of_mem_take ho)) (ok.few _ (Zk hlt)) (fun s hs=>by
   obtain⟨o,ho,rfl⟩:=Z4.1 hs;obtain⟨i,hi,rfl⟩:=List.mem_take_iff_getElem.1 ho
   exact List.pairwise_iff_getElem.1 ok.srt i j (by omega) hlt (by omega)) (by rw[Zj,Zp];omega)
  have ev:(os.take j).map (·.value)++[os[j].value]=(os.take (j+1)).map (·.value):=by rw[et,YL];rfl
  have en:(os.take j).map (·.name)++[os[j].name]=(os.take (j+1)).map (·.name):=by rw[et,YL];rfl
  rw[ev,en]at cp;clear et ev en;obtain⟨o,ho⟩:=Ex (os[j]);rw[ho]at hf cp;clear ho;have i1:=(ak5 ((os.take (j+1)).map (·.value))).1;have k1:=(akv ((os.take (j+1)).map (·.name))).1;obtain⟨I,hI⟩:=Ex (mapI ((os.take j).map (·.value)));obtain⟨K,hK⟩:=Ex (mapK ((os.take j).map (·.name)));obtain⟨I',hI'⟩:=Ex (mapI ((os.take (j+1)).map (·.value)));obtain⟨K',hK'⟩:=Ex (mapK ((os.take (j+1)).map (·.name)));rw[hI,hK,hI',hK']at cp;rw[hI']at i1;rw[hK']at k1;rw[hI,hK];simp only[A.one]at i1 k1;obtain⟨nm,v,sn⟩:=o;obtain⟨k,n,s,is,ks⟩:=v;simp only[Sf.Outp.cells,V.A,V.cells,ZD,Zw]at hf cp
  try dsimp only at cp
  refine azq (ai ht (ai hf (ai i1 k1))) (ai cp ti) ?_;exact⟨_,by omega,j+1,L++[.cells 55 [.str nm,.int .i64 k,.int .i64 n,.str s,.sl 5 .no (V.cellss is),.sl 1 .no (strsA ks),.bool sn]],rfl,by omega,by rw[hI',hK'],by(exact azy (ai ht hf))⟩
 ·have hf:=avi Sf.Outp.cells os j hge;rw[ZJ hge];have i1:=(ak5 (os.map (·.value))).1;have k1:=(akv (os.map (·.name))).1;have hle:=cjm (os.map (·.value)) (os.map (·.name));obtain⟨I,hI⟩:=Ex (mapI (os.map (·.value)));obtain⟨K,hK⟩:=Ex (mapK (os.map (·.name)));rw[hI,hK]at hle⊢;rw[hI]at i1;rw[hK]at k1;simp only[A.one]at i1 k1;refine azq (ai ht (ai hf (ai i1 k1))) ti ?_;refine⟨.agg [.int .i64 5,.int .i64 0,.str [],.sl 5 .no (V.cellss (os.map (·.value))),.sl 1 .no (strsA (os.map (·.name)))],?_,rfl⟩;rw[azl];exact hle
def stOf(e:Ent):Sf.St:=(e.s.at' e.s.latest).1
structure EntOk(e:Ent):Prop where
 rd:e.s.at' e.s.latest=(stOf e,0)
 kl:e.s.key.length<=1000000000
 hb:∀b,lfind e.s.latest e.s.es=some b->b.length<=1048600
 outs:OutsOk (stOf e).outs
def remL(W:List Ent)(ex:List UInt8):List Ent:=W.filter fun e=>!(e.name==ex)
def nmR(W:List Ent):List (List UInt8):=W.map fun e=>e.name
def vlR(W:List Ent):List V:=W.map fun e=>outsV (stOf e).outs
def remV(W:List Ent)(ex:List UInt8):V:=.mk 5 0 [] (vlR (remL W ex)) (nmR (remL W ex))
theorem aqr(W:List Ent)(ex:List UInt8):(remL W ex).Sublist W:=List.filter_sublist
theorem bxv(W:List Ent)(e:Ent)(ex:List UInt8):remL (W++[e]) ex=if e.name==ex then remL W ex else remL W ex++[e]:=by
 unfold remL;rw[List.filter_append];cases h:(e.name==ex)with
 |true=>rw[if_pos rfl];simp[h]
 |false=>rw[if_neg (by decide)];simp[h]
def remA(W:List Ent)(ex:List UInt8):A:=if Val.checkZ (remV W ex)=0 then .tup [(remV W ex).A,.int .i64 0]else .tup [(V.mk 0 0 [] [] []).A,.int .i64 (Val.checkZ (remV W ex))]
theorem bvc{h:Hp}{i:Nat}{key:List UInt8}{sp:A}{W:List Ent}(w:WsAt h.b i key sp W)(ok:∀e∈W,EntOk e)(ex:List UInt8)(hlens:(remV W ex).lens):
  AC 17 [.ptr i 0,.str ex] h fun v h'=>v=remA W ex/\∃L,h'=⟨h.b++L,h.t⟩:=by
 have cr:=axe w.set;have hb:=w.set;have hlen:=w.len;unfold setC at hb;have cC:=avs (remV W ex) hlens;clear hlens;obtain⟨b,t⟩:=h;dsimp only at w cr hb⊢;have hi0:=get_lt hb;have f1:∀x:Blk,(b++[x])[i]?=some (.cells 72 [.str key,.bool true,sp]):=fun x=>azd hb _
 have f2:∀x y:Blk,(b++[x]++[y])[i]?=some (.cells 72 [.str key,.bool true,sp]):=fun x y=>azd (f1 x) _
 have crB:=fun x=>axe (h:=⟨b++[x],t⟩) (i:=i) (key:=key) (sp:=sp) (azd w.set _)
 refine fo ?_;have vA:(remV W ex).A=.agg [.int .i64 5,.int .i64 0,.str [],.sl 5 .no (V.cellss (vlR (remL W ex))),.sl 1 .no (strsA (nmR (remL W ex)))]:=by simp only[remV,V.A,V.cells]
 have cC':∀h,AT 19 [.agg [.int .i64 5,.int .i64 0,.str [],mapI (vlR (remL W ex)),mapK (nmR (remL W ex))]] h (.int .i64 (Val.checkZ (remV W ex))):=fun h=>by
  rw[vA]at cC;exact ACall.args (as':=[.agg [.int .i64 5,.int .i64 0,.str [],.sl 5 .no (V.cellss (vlR (remL W ex))),.sl 1 .no (strsA (nmR (remL W ex)))]]) ⟨cjm _ _,trivial⟩ (cC h)
 clear cC;unfold remA;rw[vA];have hle:=cjm (vlR (remL W ex)) (nmR (remL W ex));have i1:=(ak5 (vlR (remL W ex))).1;have k1:=(akv (nmR (remL W ex))).1;obtain⟨Z,hZ⟩:=Ex (Val.checkZ (remV W ex));rw[hZ]at cC'⊢;have sp0:=w.sp;have hst:=fun e (he:e∈W)=>w.st he
 clear vA hZ;refine go0 ti ?_;refine gc0 ti ?_;refine(crB _).mono ?_;rintro v h' ⟨rfl,rfl⟩;have pre:∀(B:List Blk) (L:List Blk),B=b++L->∀j x,b[j]?=some x->B[j]?=some x:=fun B L e j x h=>by rw[e];exact azd h L
 revert f1 f2 hb;cases sp0 with
 |nil=>
  intro hb f1 f2;have eI:mapI (vlR (remL [] ex))=.sl 0 .nil []:=rfl;have eK:mapK (nmR (remL [] ex))=.sl 0 .nil []:=rfl;rw[eI,eK]at hle cC';have z0:¬(0:Int)<((0:Nat):Int):=by decide
  refine go0 (ai f1 f2) ?_;refine aj6 ?_;by_cases hz:Z=0
  ·subst hz;rw[if_pos rfl];refine azq z0 (ai cC' ti) ?_;refine⟨_,?_,rfl,_,by rw[Zi]⟩;exact⟨hle,axc _,trivial⟩
  ·have hzb:(Z !=0)=true:=by simp[hz]
   rw[if_neg hz];refine azq (ai z0 hzb) (ai cC' ti) ?_;exact⟨.tup [(V.mk 0 0 [] [] []).A,.int .i64 Z],⟨⟨azf _,azf _,azf _,⟨rfl,.inr rfl,.inl rfl⟩,⟨rfl,.inr rfl,.inl rfl⟩,trivial⟩,axc _,trivial⟩,rfl,_,by rw[Zi]⟩
 |@row k _ hk=>
  intro hb f1 f2;have hrow:=av9 W;have lF:=ajo W;obtain⟨F,hF⟩:=Ex (rowW W);rw[hF]at hrow hk lF;refine go0 f2 ?_
  refine azg (fun m ts hh=>∃(j:Nat) (B L:List Blk),m=W.length-j/\j<=W.length/\hh=⟨B,t⟩/\B=b++L/\B[b.length]?=some (.cells 51 [.int .i64 0,.int .i64 0,.str [],.sl 0 .nil [],.sl 0 .nil []]) /\
   B[b.length+1]?=some (.cells 51 [.int .i64 5,.int .i64 0,.str [],mapI (vlR (remL (W.take j) ex)),mapK (nmR (remL (W.take j) ex))]) /\
   (ts 1=.str ex/\ts 4=.ptr b.length 0/\ts 6=.ptr (b.length+1) 0/\ts 20=.bs k 2 W.length/\ts 21=.int .i64 (W.length:Nat)/\ts 22=.int .i64 (j:Nat))) W.length ?_ ?_
  ·refine⟨0,_,_,rfl,ZH _,rfl,Zi _ _ _,?_,?_,by(exact azy (ai f1 f2))⟩
   ·exact azd (aqa rfl) _
   ·exact aqa (by rw[Za];rfl)
  clear f1 f2 crB cr;rintro m ts hh ⟨j,B,L,rfl,hj,rfl,hBL,r0,o0,ht⟩;have hkB:=pre B L hBL k _ hk;rcases Yd j W.length with hlt|hge;rotate_left
  ·have hf:¬(j:Int)<(W.length:Int):=by omega
   rw[ZJ hge]at o0;obtain⟨I,hI⟩:=Ex (mapI (vlR (remL W ex)));obtain⟨K,hK⟩:=Ex (mapK (nmR (remL W ex)));rw[hI,hK]at hle o0 cC';rw[hI]at i1;rw[hK]at k1;simp only[A.one]at i1 k1;have hn1:b.length<B.length:=get_lt r0;obtain⟨B1,hB1⟩:=Ex (B.set b.length (.cells 51 [.int .i64 5,.int .i64 0,.str [],I,K]));have b1:B1[b.length]?=some (.cells 51 [.int .i64 5,.int .i64 0,.str [],I,K]):=by rw[<-hB1];exact ajh r0
   have e1:∃L,B1=b++L:=⟨L.set 0 (.cells 51 [.int .i64 5,.int .i64 0,.str [],I,K]),by rw[<-hB1,hBL,List.set_append_right _ _ (Ze _),Nat.sub_self]⟩;obtain⟨L1,hL1⟩:=e1;by_cases hz:Z=0
   ·subst hz;rw[if_pos rfl];refine azq (ai ht (ai hf (ai r0 (ai o0 (ai i1 (ai k1 (ai hB1 b1))))))) (ai cC' ti) ?_;refine⟨_,?_,rfl,L1,by rw[hL1]⟩;exact⟨hle,axc _,trivial⟩
   ·have hzb:(Z !=0)=true:=by simp[hz]
    rw[if_neg hz];obtain⟨B2,hB2⟩:=Ex (B.set b.length (.cells 51 [.int .i64 0,.int .i64 0,.str [],.sl 0 .nil [],.sl 0 .nil []]));have b2:B2[b.length]?=some (.cells 51 [.int .i64 0,.int .i64 0,.str [],.sl 0 .nil [],.sl 0 .nil []]):=by rw[<-hB2];exact ajh r0
    refine azq (ai ht (ai hf (ai r0 (ai o0 (ai i1 (ai k1 (ai hzb (ai hB2 b2)))))))) (ai cC' ti) ?_;refine⟨.tup [(V.mk 0 0 [] [] []).A,.int .i64 Z],⟨⟨azf _,azf _,azf _,⟨rfl,.inr rfl,.inl rfl⟩,⟨rfl,.inr rfl,.inl rfl⟩,trivial⟩,axc _,trivial⟩,rfl,L.set 0 (.cells 51 [.int .i64 0,.int .i64 0,.str [],.sl 0 .nil [],.sl 0 .nil []]),?_⟩;rw[<-hB2,hBL,List.set_append_right _ _ (Ze _),Nat.sub_self]
  ·have hz:(0:Int)<=(j:Int)/\(j:Int)<(W.length:Int):=by omega
   have wj:IntKind.i64.wrap ((j:Int)+1)=((j+1:Nat):Int):=by rw[wrap64 (by omega) (by omega)];omega
   obtain⟨g1,g2,_⟩:=hrow j hlt;have hem:=Zk hlt;have et:W.take (j+1)=W.take j++[W[j]]:=(List.take_append_getElem hlt).symm;have es:=bxv (W.take j) W[j] ex;rw[<-et]at es;have hs:=(hst _ hem).more L;rw[<-hBL]at hs;have eok:=ok _ hem;have hnb:b.length<B.length:=get_lt r0;have srt:=w.srt
   have cP:=cyd (vlR (remL (W.take j) ex)) (nmR (remL (W.take j) ex)) W[j].name (outsV (stOf W[j]).outs) (by unfold vlR nmR;rw[Zj,Zj]) (bky (by
     have:=(aqr (W.take j) ex).length_le
     unfold vlR;rw[Zj];rw[Zp]at this;omega) (by
     have:=(aqr (W.take j) ex).length_le
     unfold nmR;rw[Zj];rw[Zp]at this;omega) fun v hv=>by
    obtain⟨e,he,rfl⟩:=Z4.1 hv
    exact bjz (ok e (List.mem_of_mem_take ((aqr _ _).mem he))).outs) (bjz eok.outs) (fun s hs=>by
    obtain⟨e,he,rfl⟩:=Z4.1 hs;obtain⟨i,hi,rfl⟩:=List.mem_take_iff_getElem.1 ((aqr _ _).mem he)
    exact(Sf.cmpZ_lt _ _).1 (List.pairwise_iff_getElem.1 srt i j (by omega) hlt (by omega))) (by
     have:=(aqr (W.take j) ex).length_le
     unfold nmR;rw[Zj];rw[Zp]at this;omega)
   have e1:vlR (remL (W.take j) ex)++[outsV (stOf W[j]).outs]=vlR (remL (W.take j) ex++[W[j]]):=by unfold vlR;rw[YL];rfl
   have e2:nmR (remL (W.take j) ex)++[W[j].name]=nmR (remL (W.take j) ex++[W[j]]):=by unfold nmR;rw[YL];rfl
   rw[e1,e2]at cP;clear e1 e2;obtain⟨e,he⟩:=Ex (W[j]);rw[he]at g2 es hs eok cP;clear he hst ok et hrow srt;obtain⟨B1,hB1⟩:=Ex (B++[.cells 78 [.str e.name,.ptr e.p 0]]);have l1:B1.length=B.length+1:=by rw[<-hB1,Za];rfl
   have r1:B1[b.length]?=some (.cells 51 [.int .i64 0,.int .i64 0,.str [],.sl 0 .nil [],.sl 0 .nil []]):=by rw[<-hB1];exact azd r0 _
   have o1:B1[b.length+1]?=some (.cells 51 [.int .i64 5,.int .i64 0,.str [],mapI (vlR (remL (W.take j) ex)),mapK (nmR (remL (W.take j) ex))]):=by rw[<-hB1];exact azd o0 _
   have x1:B1[B.length]?=some (.cells 78 [.str e.name,.ptr e.p 0]):=by rw[<-hB1];exact aqa rfl
   have hs1:StAt B1 e.p e.m e.s:=by rw[<-hB1];exact hs.more _
   have b1:B1=b++(L++[.cells 78 [.str e.name,.ptr e.p 0]]):=by rw[<-hB1,hBL,Zi]
   cases hne:(e.name==ex)with
   |true=>
    rw[hne,if_pos rfl]at es;refine azq (ai ht (ai hkB (ai hz (ai g1 (ai g2 (ai hB1 (ai x1 (ai hne wj)))))))) ti ?_;exact⟨_,by omega,j+1,B1,_,rfl,by omega,rfl,b1,r1,by rw[es];exact o1,by(exact azy (ai ht wj))⟩
   |false=>
    rw[hne,if_neg (by decide)]at es;have cR:=awy (h:=⟨B1,t⟩) hs1 eok.kl eok.hb;rw[eok.rd]at cR;have cO:=byw (stOf e) eok.outs;obtain⟨⟨lin,ser,ins,ps,os⟩,hst⟩:=Ex (stOf e);rw[hst]at cR cO cP;simp only[Sf.St.A]at cR cO;dsimp only at cO cP;have vO:(outsV os).A=.agg [.int .i64 5,.int .i64 0,.str [],.sl 5 .no (V.cellss (os.map (·.value))),.sl 1 .no (strsA (os.map (·.name)))]:=by simp only[outsV,V.A,V.cells]
    rw[vO]at cO cP;obtain⟨B2,hB2⟩:=Ex (B1++[.cells 42 [.str lin,.int .i64 ser,.sl 13 .no (ins.map Sf.Inst.cells),.sl 3 .no (ps.map Sf.Pend.cells),.sl 7 .no (os.map Sf.Outp.cells)]]);have r2:B2[b.length]?=some (.cells 51 [.int .i64 0,.int .i64 0,.str [],.sl 0 .nil [],.sl 0 .nil []]):=by rw[<-hB2];exact azd r1 _
    have o2:B2[b.length+1]?=some (.cells 51 [.int .i64 5,.int .i64 0,.str [],mapI (vlR (remL (W.take j) ex)),mapK (nmR (remL (W.take j) ex))]):=by rw[<-hB2];exact azd o1 _
    have x2:B2[B.length]?=some (.cells 78 [.str e.name,.ptr e.p 0]):=by rw[<-hB2];exact azd x1 _
    have y2:B2[B1.length]?=some (.cells 42 [.str lin,.int .i64 ser,.sl 13 .no (ins.map Sf.Inst.cells),.sl 3 .no (ps.map Sf.Pend.cells),.sl 7 .no (os.map Sf.Outp.cells)]):=by rw[<-hB2];exact aqa rfl
    have i1':=(ak5 (vlR (remL (W.take j) ex++[e]))).1;have k1':=(akv (nmR (remL (W.take j) ex++[e]))).1;obtain⟨I,hI⟩:=Ex (mapI (vlR (remL (W.take j) ex)));obtain⟨K,hK⟩:=Ex (mapK (nmR (remL (W.take j) ex)));obtain⟨I',hI'⟩:=Ex (mapI (vlR (remL (W.take j) ex++[e])));obtain⟨K',hK'⟩:=Ex (mapK (nmR (remL (W.take j) ex++[e])));rw[hI,hK,hI',hK']at cP;rw[hI,hK]at o2;rw[hI']at i1';rw[hK']at k1';simp only[A.one]at i1' k1';obtain⟨B3,hB3⟩:=Ex (B2.set (b.length+1) (.cells 51 [.int .i64 5,.int .i64 0,.str [],I',K']));have r3:B3[b.length]?=some (.cells 51 [.int .i64 0,.int .i64 0,.str [],.sl 0 .nil [],.sl 0 .nil []]):=by rw[<-hB3];exact(azt (by omega)).trans r2
    have o3:B3[b.length+1]?=some (.cells 51 [.int .i64 5,.int .i64 0,.str [],I',K']):=by rw[<-hB3];exact ajh o2
    have b3:∃L',B3=b++L':=by
     rw[<-hB3,<-hB2,b1,Zi,List.set_append_right _ _ (by omega)];exact⟨_,rfl⟩
    obtain⟨L3,b3⟩:=b3;clear r1 o1 o0 r0 hs hs1 eok hI hK pre;refine azq (ai ht (ai hkB (ai hz (ai g1 (ai g2 (ai hB1 (ai x1 (ai hne (ai wj (ai hB2 (ai o2 (ai x2 y2)))))))))))) (ai cR ti) ?_;refine use (cO _) ?_ (hm:=⟨fun e=>absurd e (by decide),fun _=>czz (ai ht (ai o2 x2))⟩);refine azq (ai ht (ai hkB (ai hz (ai g1 (ai g2 (ai x1 (ai wj (ai o2 (ai x2 (ai y2 hB3)))))))))) ti ?_;refine use (cP _) ?_ (hm:=⟨fun e=>absurd e (by decide),fun _=>czz (ai ht (ai o2 x2))⟩);refine azq (ai ht (ai wj (ai o2 (ai x2 (ai y2 (ai i1' (ai k1' hB3))))))) ti ?_;exact⟨_,by omega,j+1,B3,L3,rfl,by omega,rfl,b3,r3,by rw[es,hI',hK'];exact o3,by(exact azy (ai ht wj))⟩
end AX
end
end Go.Proofs.YthhpocnmfknalaaGreatDoor
