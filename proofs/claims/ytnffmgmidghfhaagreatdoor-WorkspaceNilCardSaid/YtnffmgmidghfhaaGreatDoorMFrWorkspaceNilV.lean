/- Part of what the proof needs. -/
import Derived.Test.YtnffmgmidghfhaaGreatDoorMFrWorkspaceNilU
set_option maxHeartbeats 4000000
set_option maxRecDepth 100000
set_option linter.all false
namespace Go.Proofs.YtnffmgmidghfhaaGreatDoor
section
open Go.RowKit
namespace AX
structure Made(b b':List Blk)(i:Nat)(key:List UInt8)(W:List Ent)(n:List UInt8)(q:Nat):Prop where
 at':∃sp p m,WsAt b' i key sp (insW W q ⟨n,newS key n,p,m⟩)
 keep:KeepC i b b'
 len:b.length<=b'.length
theorem cwm{b B1 B4:List Blk}{i k n0:Nat}{key:List UInt8}{sp:A}{W:List Ent}{n:List UInt8}{q:Nat}(w:WsAt b i key sp W)(hl:W.length<32)(hc:CutW W n q)(hh:hasW W n q=false)
  (hn0:b.length<=n0) (hkn:n0<=k)
  (hset:B4[i]?=some (setC key (.bs k 2 (W.length+1)))) (hrow:B4[k]?=some (.row 54 (rowW (insW W q ⟨n,newS key n,n0+1,n0⟩)))) (hm:B4[n0]?=some (newS key n).M) (hp:B4[n0+1]?=some ((newS key n).Bk n0))
  (hold:∀j x,j≠i->(∀F,x≠.row 54 F)->b[j]?=some x->B4[j]?=some x) (hlen:b.length<=B4.length):Made b B4 i key W n q:=by
 have hne:=w.set_ne;refine⟨⟨_,n0+1,n0,⟨hset,?_,fun e he=>?_,?_,?_,cxk (e:=⟨n,newS key n,n0+1,n0⟩) w.srt hc hh,by rw[bvu];omega⟩⟩,fun j T l hj hb=>hold j _ hj (fun F e=>by cases e) hb,hlen⟩
 ·have:=SpAt.row hrow;rw[bvu]at this;exact this
 ·rcases ZN.1 ((ajw W q _).mem_iff.1 he)with rfl|he
  ·exact⟨hm,hp⟩
  ·obtain⟨h1,h2⟩:=w.ent e he;exact⟨hold _ _ (hne e he).1 (fun F e=>by unfold Sto.M at e;cases e) h1,hold _ _ (hne e he).2 (fun F e=>by unfold Sto.Bk at e;cases e) h2⟩
 ·rw[((ajw W q ⟨n,newS key n,n0+1,n0⟩).map (·.p)).nodup_iff,ZQ,List.nodup_cons];refine⟨fun hm=>?_,w.ps⟩;obtain⟨e,he,hep⟩:=Ye.1 hm;have h1:=get_lt (w.ent e he).2;have hep':e.p=n0+1:=hep;omega
 ·rw[((ajw W q ⟨n,newS key n,n0+1,n0⟩).map (·.m)).nodup_iff,ZQ,List.nodup_cons];refine⟨fun hm=>?_,w.ms⟩;obtain⟨e,he,hem⟩:=Ye.1 hm;have h1:=get_lt (w.ent e he).1;have hem':e.m=n0:=hem;omega
section
variable {h:Hp}
theorem aw7{i:Nat}{key:List UInt8}{sp:A}{W:List Ent}(w:WsAt h.b i key sp W)(hkey:Seal.check key=0)(n:List UInt8)(q:Nat)(hc:CutW W n q)(he:crE W n q=0):
  AC 12 [.ptr i 0,.str n] h fun v h'=>v=.int .i64 0/\h'.t=h.t/\Made h.b h'.b i key W n q:=by
 unfold crE at he;have h1:Adr.ident n=true:=by
  cases h:Adr.ident n with
  |true=>rfl
  |false=>rw[h,if_pos rfl]at he;cases he
 rw[h1,if_neg (by decide)]at he;have h2:hasW W n q=false:=by
  cases h:hasW W n q with
  |false=>rfl
  |true=>rw[h,if_pos rfl]at he;cases he
 rw[h2,if_neg (by decide)]at he;have h3:W.length<32:=by
  rcases YH W.length 32 with h|h
  ·exact h
  ·rw[if_pos h]at he;cases he
 clear he;obtain⟨t1,t2,t3⟩:=bv7 h1;have cr:=aq9 w.set;have ci:=ax8 n (by omega);rw[h1]at ci;have cf:=ay2 w n q hc;rw[h2]at cf;have cn:=fun h=>bw7 hkey t1 t2 t3 h
 have hset0:=w.set;obtain⟨b,t⟩:=h;dsimp only at w cr cf hset0⊢;refine aza mixedT bqm (by simp[axm]) ?_;dsimp only[axm];refine go0 ti ?_;refine gc0 ti ?_;refine cr.mono ?_;rintro v h' ⟨rfl,rfl⟩;refine go0 ti ?_;refine gc0 ti ?_;refine(ci _).mono ?_;rintro v h' ⟨rfl,rfl⟩;refine go0 ti ?_;refine gc0 ti ?_;refine cf.mono ?_;rintro v h' ⟨rfl,L,rfl⟩;have hbL:=azc hset0 L;obtain⟨B0,hB0⟩:=Ex (b++L);obtain⟨n0,hn0⟩:=Ex (B0.length);have hbn:b.length<=n0:=by rw[<-hn0,<-hB0,Za];omega
 rw[hB0]at hbL;have cn:=cn ⟨B0,t⟩;obtain⟨s,hs⟩:=Ex (newS key n);rw[hs]at cn;obtain⟨B1,hB1⟩:=Ex (B0++[s.M,s.Bk n0]);simp only[hn0,hB1]at cn;have hi0:=get_lt hbL;have l1:B1.length=n0+2:=by rw[<-hB1,Za,hn0];rfl
 have a1:B1[i]?=some (setC key sp):=by rw[<-hB1];exact azc hbL _
 have m1:B1[n0]?=some s.M:=by rw[<-hB1,List.getElem?_append_right (by omega),hn0,Nat.sub_self];rfl
 have p1:B1[n0+1]?=some (s.Bk n0):=by rw[<-hB1,List.getElem?_append_right (by omega),hn0,show n0+1-n0=1 by omega];rfl
 have o1:∀j x,b[j]?=some x->B1[j]?=some x:=fun j x hj=>by rw[<-hB1,<-hB0];exact azc (azc hj _) _
 obtain⟨B2,hB2⟩:=Ex (B1++[.row 54 [.str n,.ptr (n0+1) 0]]);have l2:B2.length=n0+3:=by rw[<-hB2,Za,l1];rfl
 have a2:B2[i]?=some (setC key sp):=by rw[<-hB2];exact azc a1 _
 have m2:B2[n0]?=some s.M:=by rw[<-hB2];exact azc m1 _
 have p2:B2[n0+1]?=some (s.Bk n0):=by rw[<-hB2];exact azc p1 _
 have x2:B2[n0+2]?=some (.row 54 [.str n,.ptr (n0+1) 0]):=by rw[<-hB2];exact az5 l1.symm
 have o2:∀j x,b[j]?=some x->B2[j]?=some x:=fun j x hj=>by rw[<-hB2];exact azc (o1 j x hj) _
 have hV:rowC ⟨B2,t⟩ 54 2 (.bs (n0+2) 2 1)=some (1,[.str n,.ptr (n0+1) 0]):=by
  simp only[rowC,x2,if_true];rfl
 have z0:¬(W.length:Int)>=32:=by omega
 have e0:rowW [⟨n,s,n0+1,n0⟩]=[.str n,.ptr (n0+1) 0]:=rfl;have fin:∀B4 k,n0<=k->B4[i]?=some (setC key (.bs k 2 (W.length+1)))->B4[k]?=some (.row 54 (rowW (insW W q ⟨n,s,n0+1,n0⟩)))->B4[n0]?=some s.M->B4[n0+1]?=some (s.Bk n0)->(∀j x,j≠i->(∀F,x≠.row 54 F)->b[j]?=some x->B4[j]?=some x)->b.length<=B4.length->Made b B4 i key W n q:=fun B4 k hk q1 q2 q3 q4 q5 q6=>by
  subst hs;exact cwm (B1:=B1) w h3 hc h2 hbn hk q1 q2 q3 q4 q5 q6
 have sp0:=w.sp;unfold setC at hbL a1 a2;revert hbL a1 a2;cases sp0 with
 |nil=>
  intro hbL a1 a2;obtain rfl:q=0:=Nat.le_zero.1 hc.le;have cI:=fun t=>cqn (Gw:=GT) (h:=⟨B2,t⟩) (W0:=0) (V:=.bs (n0+2) 2 1) (x:=[.str n,.ptr (n0+1) 0]) (by simp only[rowC,x2,if_true];rfl)
  obtain⟨B3,hB3⟩:=Ex (B2++[.row 54 [.str n,.ptr (n0+1) 0]]);simp only[hB3,l2]at cI;have a3:B3[i]?=some (.cells 52 [.str key,.bool true,.sl 0 .nil []]):=by rw[<-hB3];exact azc a2 _
  have f0:=fin (B3.set i (setC key (.bs (n0+3) 2 1))) (n0+3) (by omega) (axi a3) ((azq (by have:=get_lt hbL;omega)).trans (by rw[<-hB3];exact az5 l2.symm)) ((azq (by have:=get_lt hbL;omega)).trans (by rw[<-hB3];exact azc m2 _)) ((azq (by have:=get_lt hbL;omega)).trans (by rw[<-hB3];exact azc p2 _)) (fun j x hj hF hb=>(azq (Ne.symm hj)).trans (by rw[<-hB3];exact azc (o2 j x hb) _)) (by rw[Zv,<-hB3,Za,l2];omega);clear fin o1 o2;unfold setC at f0;have z1:¬((0:Nat):Int)>=32:=by decide
  refine go0 (ai hB0 (ai hbL z1)) ?_;refine gc0 (ai hB0 (ai hbL z1)) ?_;refine cn.mono ?_;rintro v h' ⟨rfl,rfl⟩;refine go0 (ai a1 (ai hB2 l1)) ?_;refine gc0 (ai a1 (ai hB2 l1)) ?_;refine(cI _).mono ?_;rintro v h' ⟨rfl,rfl⟩;refine go0 a3 ?_;exact⟨_,le_refl _,rfl,rfl,f0⟩
 |@row k _ hk=>
  intro hbL a1 a2;have hkb:=get_lt hk;have hik:=(w.row_ne hk).1;have r2:=o2 k _ hk;have cI:=fun t=>cy3 (Gw:=GT) (h:=⟨B2,t⟩) (i:=k) (n:=W.length) (k:=q) (V:=.bs (n0+2) 2 1) (x:=[.str n,.ptr (n0+1) 0]) r2 (ax0 W) hc.le (by simp only[rowC,x2,if_true];rfl) (fun m e=>by injection e with e1;omega) (by omega) (bvs W)
  have er:(rowW W).take (q*2)++[.str n,.ptr (n0+1) 0]++(rowW W).drop (q*2)=rowW (insW W q ⟨n,s,n0+1,n0⟩):=by
   unfold insW;rw[axb,axb,(aju W q hc.le).1,(aju W q hc.le).2,e0]
  rw[er]at cI;obtain⟨R,hR⟩:=Ex (rowW (insW W q ⟨n,s,n0+1,n0⟩));rw[hR]at cI fin;obtain⟨B3,hB3⟩:=Ex (B2.set k .gone++[.row 54 R]);simp only[hB3,l2]at cI;have a3:B3[i]?=some (.cells 52 [.str key,.bool true,.bs k 2 W.length]):=by rw[<-hB3];exact azc ((azq hik).trans a2) _
  have f0:=fin (B3.set i (setC key (.bs (n0+3) 2 (W.length+1)))) (n0+3) (by omega) (axi a3) ((azq (by have:=get_lt hbL;omega)).trans (by rw[<-hB3];exact az5 (by rw[Zv,l2]))) ((azq (by have:=get_lt hbL;omega)).trans (by rw[<-hB3];exact azc ((azq (by omega)).trans m2) _)) ((azq (by have:=get_lt hbL;omega)).trans (by rw[<-hB3];exact azc ((azq (by omega)).trans p2) _)) (fun j x hj hF hb=>(azq (Ne.symm hj)).trans (by
    rw[<-hB3];refine azc ((azq (fun e=>?_)).trans (o2 j x hb)) _;subst e
    rw[hk]at hb;injection hb with hb;exact hF _ hb.symm)) (by rw[Zv,<-hB3,Za,Zv,l2];omega)
  clear fin o1 o2;unfold setC at f0;refine go0 (ai hB0 (ai hbL z0)) ?_;refine gc0 (ai hB0 (ai hbL z0)) ?_;refine cn.mono ?_;rintro v h' ⟨rfl,rfl⟩;refine go0 (ai a1 (ai hB2 l1)) ?_;refine gc0 (ai a1 (ai hB2 l1)) ?_;refine(cI _).mono ?_;rintro v h' ⟨rfl,rfl⟩;refine go0 a3 ?_;exact⟨_,le_refl _,rfl,rfl,f0⟩
end
end AX
end
section
open Go.RowKit
namespace AX
structure StAt(b:List Blk)(p m:Nat)(s:Sto):Prop where
 bm:b[m]?=some s.M
 bp:b[p]?=some (s.Bk m)
theorem StAt.ne{b:List Blk}{p m:Nat}{s:Sto}(h:StAt b p m s):p≠m:=fun e=>by
 have h1:=h.bm;have h2:=h.bp;unfold Sto.M at h1;unfold Sto.Bk at h2;rw[e,h1]at h2;cases h2
theorem StAt.more{b:List Blk}{p m:Nat}{s:Sto}(h:StAt b p m s)(L:List Blk):StAt (b++L) p m s:=⟨azc h.bm L,azc h.bp L⟩
theorem StAt.same{b:List Blk}{p m:Nat}{s:Sto}(h:StAt b p m s):(b.set m s.M).set p (s.Bk m)=b:=by
 have e1:b.set m s.M=b:=by obtain⟨hl,e⟩:=Zc.1 h.bm;rw[<-e];exact List.set_getElem_self hl
 rw[e1];obtain⟨hl,e⟩:=Zc.1 h.bp;rw[<-e];exact List.set_getElem_self hl
section
variable {h:Hp} {p m:Nat} {s:Sto}
theorem cv5{f:FuncId}{args:List A}{v:A}(hc:∀l t,AC f (.ptr 1 0::args) ⟨s.M::s.B::l,t⟩ fun v' h'=>v'=v/\h'=⟨s.M::s.B::l,t⟩)(ha:A.locL 0 args=true)(hv:v.loc 0=true)(w:StAt h.b p m s):
  AC f (.ptr p 0::args) h fun v' h'=>v'=v/\h'=h:=by
 have:=Sto.at_any hc ha hv w.ne w.bm w.bp;rw[w.same]at this;exact this
theorem bvm(w:StAt h.b p m s):AT 25 [.ptr p 0] h (.tup [.str s.own,.int .i64 s.left]):=
 cv5 (fun l t=>cj1 s l t) rfl rfl w
theorem czu(w:StAt h.b p m s)(hk:s.key.length<=1000000000)(hb:∀b,lfind s.latest s.es=some b->b.length<=1048600):AT 18 [.ptr p 0] h (.tup [(s.at' s.latest).1.A,.int .i64 (s.at' s.latest).2]):=
 cv5 (fun l t=>dzc s l t hk hb) rfl (by simp[A.loc,A.locL,Sf.St.A]) w
theorem dqd(w:StAt h.b p m s)(who:List UInt8)(hw:who.length<=2000000)(n:Int):AC 27 [.ptr p 0,.str who,.int .i64 n] h fun r h'=>r=.int .i64 (s.lock who n).2/\h'=⟨(h.b.set m (s.lock who n).1.M).set p ((s.lock who n).1.Bk m),h.t⟩:=
 Sto.at_any (fun l t=>dze s l t who hw n) rfl rfl w.ne w.bm w.bp
theorem cvf(w:StAt h.b p m s)(who:List UInt8):AC 28 [.ptr p 0,.str who] h fun r h'=>r=.int .i64 (s.unlock who).2/\h'=⟨(h.b.set m (s.unlock who).1.M).set p ((s.unlock who).1.Bk m),h.t⟩:=
 Sto.at_any (fun l t=>cqw s l t who) rfl rfl w.ne w.bm w.bp
theorem by6(w:StAt h.b p m s)(who:List UInt8)(st:Sf.St)(hin:Sf.StIn st)(hk:s.key.length<=1000000000)(hE:(Sf.stE 2 st).length+20<=1000000000):AC 29 [.ptr p 0,.str who,st.A] h fun r h'=>r=.int .i64 (s.write who st).2/\h'=⟨(h.b.set m (s.write who st).1.M).set p ((s.write who st).1.Bk m),h.t⟩:=
 Sto.at_any (fun l t=>cja s l t who st hin hk hE) (by simp[A.loc,A.locL,Sf.St.A]) rfl w.ne w.bm w.bp
theorem WsAt.st{b:List Blk}{i:Nat}{key:List UInt8}{sp:A}{W:List Ent}(w:WsAt b i key sp W){e:Ent}(he:e∈W):StAt b e.p e.m e.s:=⟨(w.ent e he).1,(w.ent e he).2⟩
theorem SpAt.row_of{b:List Blk}{sp:A}{W:List Ent}(h:SpAt b sp W)(hp:0<W.length):∃k,b[k]?=some (.row 54 (rowW W))/\sp=.bs k 2 W.length:=by
 cases h with
 |nil=>exact absurd hp (Nat.not_lt_zero _)
 |row hk=>exact⟨_,hk,rfl⟩
def awb:AX.AFn:=⟨65,aS [aR 4 (.mv (aI 0))] (.seq (aS [aM 12 0,aR 13 (.call 17 [.t 12]),aR 14 (.un .not (.t 13))] (.cond (.t 14) (aS [aR 4 (.mv (aI 38))] (.ret)) (.skip))) (aS [aM 16 0,aM 17 1,aR 18 (.call 22 [.t 16,.t 17]),aM 15 18,aE 19 15 0,aE 20 15 1,aM 5 19,aM 6 20] (.seq (aS [aM 21 6,aR 22 (.un .not (.t 21))] (.cond (.t 22) (aS [aR 4 (.mv (aI 9))] (.ret)) (.skip))) (aS [aM 23 0,aR 24 (.nilck (.t 23)),aF 25 2 24,aL 26 25,aM 27 5,aR 28 (.iaddr 2 (.t 26) (.t 27)),aF 29 1 28,aL 30 29,aM 7 30] (.seq (aS [aM 32 7,aR 33 (.call 25 [.t 32]),aM 31 33,aE 34 31 0,aE 35 31 1,aM 8 34,aM 9 35] (aS [aM 36 8,aR 37 (.bin .neq (.t 36) (.c (.str [])))] (.cond (.t 37) (aS [aR 4 (.mv (aI 24))] (.ret)) (.skip)))) (aS [aM 39 7,aR 40 (.call 18 [.t 39]),aM 38 40,aE 41 38 0,aE 42 38 1,aR 10 (.alloc 58 [.str [],.int .i64 0,.sl 0 .nil [],.sl 0 .nil [],.sl 0 .nil []]),aU (.store 5 (.t 10) (.t 41)),aM 11 42] (.seq (aS [aM 43 11,aR 44 (.bin .neq (.t 43) (aI 0))] (.cond (.t 44) (aS [aM 45 11,aM 4 45] (.ret)) (.skip))) (.seq (aS [aF 46 2 10,aL 47 46,aR 48 (.len false (.t 47)),aF 49 3 10,aL 50 49,aR 51 (.len false (.t 50)),aR 52 (.bin .add (.t 48) (.t 51)),aR 53 (.bin .gtr (.t 52) (aI 0))] (.cond (.t 53) (aS [aR 4 (.mv (aI 38))] (.ret)) (.skip))) (aS [aM 54 0,aM 55 0,aR 56 (.nilck (.t 55)),aF 57 2 56,aL 58 57,aM 59 5,aM 60 5,aR 61 (.bin .add (.t 60) (aI 1)),aR 62 (.call 26 [.t 58,.t 59,.t 61]),aR 63 (.nilck (.t 54)),aF 64 2 63,aU (.store 1 (.t 64) (.t 62))] (aS [aR 4 (.mv (aI 0))] (.ret))))))))))),[.t 4]⟩
theorem czv:AX.compFn Tryz.prog 13=some awb:=by kernel_rfl
def dlE(e:Ent)(st:Sf.St):Int:=if e.s.own≠[]then 24 else if 0<st.insts.length+st.pends.length then 38 else 0
structure Gone(b b':List Blk)(i:Nat)(key:List UInt8)(W:List Ent)(q:Nat):Prop where
 at':∃sp,WsAt b' i key sp (W.take q++W.drop (q+1))
 keep:KeepC i b b'
 len:b.length<=b'.length
theorem cqk{i:Nat}{key:List UInt8}{sp:A}{W:List Ent}(w:WsAt h.b i key sp W)(n:List UInt8)(q:Nat)(hc:CutW W n q)(hh:hasW W n q=true)(e:Ent)(he:W[q]?=some e)(st:Sf.St)(hr:e.s.at' e.s.latest=(st,0))(hl:st.insts.length+st.pends.length<=1000000)(hk:e.s.key.length<=1000000000)(hb:∀b,lfind e.s.latest e.s.es=some b->b.length<=1048600):
  AC 13 [.ptr i 0,.str n] h fun v h'=>v=.int .i64 (dlE e st)/\h'.t=h.t/\(dlE e st≠0->∃L,h'.b=h.b++L)/\(dlE e st=0->Gone h.b h'.b i key W q):=by
 have cr:=aq9 w.set;have cf:=ay2 w n q hc;rw[hh]at cf;have hlt:=ckb hh;have heW:W[q]=e:=by rw[Zi hlt]at he;injection he
 have hem:e∈W:=by rw[<-heW];exact ZB hlt
 obtain⟨b,t⟩:=h;dsimp only at w cr cf⊢;have hset0:=w.set;have hz:(0:Int)<=(q:Int)/\(q:Int)<(W.length:Int):=by omega
 have hlen:=w.len;have sp0:=w.sp;obtain⟨k,hk0,rfl⟩:=sp0.row_of (by omega);obtain⟨g1,_,g3⟩:=avd W q hlt;have g1':q*2+1+1<=(rowW W).length:=by omega
 rw[heW]at g3;refine aza mixedT czv (by simp[awb]) ?_;dsimp only[awb];refine go0 ti ?_;refine gc0 ti ?_;refine cr.mono ?_;rintro v h' ⟨rfl,rfl⟩;refine go0 ti ?_;refine gc0 ti ?_;refine cf.mono ?_;rintro v h' ⟨rfl,L,rfl⟩;have hbL:=azc hset0 L;have hkL:=azc hk0 L;have hw:=(w.st hem).more L;have hb0:∀j x,b[j]?=some x->(b++L)[j]?=some x:=fun j x hj=>azc hj L
 have hln:b.length<=(b++L).length:=by rw[Za];omega
 have ex:∃L',b++L=b++L':=⟨L,rfl⟩;have ey:∀x:Blk,∃L',b++L++[x]=b++L':=fun x=>⟨L++[x],Zh _ _ _⟩
 obtain⟨B,hB⟩:=Ex (b++L);simp only[hB]at hbL hkL hw hb0 hln ex ey⊢;clear hB;have c1:=bvm (h:=⟨B,t⟩) hw;have c2:=czu (h:=⟨B,t⟩) hw hk hb;rw[hr]at c2;unfold setC at hbL;have hrow:=ax0 W;obtain⟨F,hF⟩:=Ex (rowW W);obtain⟨own,hown⟩:∃own,e.s.own=own:=⟨_,rfl⟩;unfold dlE;rw[hown]at c1⊢;rw[hF]at g1' g3 hkL;by_cases h1:own=[]
 rotate_left
 ·have e1:(own != [])=true:=by simp[h1]
  rw[if_pos h1];refine go0 (ai hbL (ai hkL (ai hz (ai g1' g3)))) ?_;refine gc0 (ai hbL (ai hkL (ai hz (ai g1' g3)))) ?_;refine c1.mono ?_;rintro v h' ⟨rfl,rfl⟩;refine go0 e1 ?_;exact⟨_,le_refl _,rfl,rfl,fun _=>ex,fun e=>by cases e⟩
 have e1:(own != [])=false:=by simp[h1]
 rw[if_neg (by simp[h1])];obtain⟨lin,ser,ins,ps,os⟩:=st;simp only[Sf.St.A]at c2;dsimp only at hl⊢;have li:(ins.map Sf.Inst.cells).length=ins.length:=Zl _;have lp:(ps.map Sf.Pend.cells).length=ps.length:=Zl _;have w1:IntKind.i64.wrap ((ins.length:Int)+(ps.length:Int))=(ins.length:Int)+(ps.length:Int):=wrap64 (by omega) (by omega);by_cases h2:0<ins.length+ps.length
 ·have e2:(ins.length:Int)+(ps.length:Int)>0:=by omega
  rw[if_pos h2];refine go0 (ai hbL (ai hkL (ai hz (ai g1' g3)))) ?_;refine gc0 (ai hbL (ai hkL (ai hz (ai g1' g3)))) ?_;refine c1.mono ?_;rintro v h' ⟨rfl,rfl⟩;refine go0 e1 ?_;refine gc0 e1 ?_;refine c2.mono ?_;rintro v h' ⟨rfl,rfl⟩;refine go0 (ai li (ai lp (ai w1 e2))) ?_;exact⟨_,le_refl _,rfl,rfl,fun _=>ey _,fun e=>by cases e⟩
 ·have e2:¬(ins.length:Int)+(ps.length:Int)>0:=by omega
  rw[if_neg h2];have w2:IntKind.i64.wrap ((q:Int)+1)=((q+1:Nat):Int):=by rw[wrap64 (by omega) (by omega)];omega
  obtain⟨B1,hB1⟩:=Ex (B++[.cells 58 [.str lin,.int .i64 ser,.sl 13 .no (ins.map Sf.Inst.cells),.sl 3 .no (ps.map Sf.Pend.cells),.sl 7 .no (os.map Sf.Outp.cells)]]);have sb:B1[B.length]?=some (.cells 58 [.str lin,.int .i64 ser,.sl 13 .no (ins.map Sf.Inst.cells),.sl 3 .no (ps.map Sf.Pend.cells),.sl 7 .no (os.map Sf.Outp.cells)]):=by rw[<-hB1];exact Zu
  have k1:B1[k]?=some (.row 54 F):=by rw[<-hB1];exact azc hkL _
  have s1:B1[i]?=some (.cells 52 [.str key,.bool true,.bs k 2 W.length]):=by rw[<-hB1];exact azc hbL _
  have cD:=dzl (Gw:=GT) (h:=⟨B1,t⟩) k1 (by rw[<-hF];exact hrow) hlt (by rw[<-hF];exact bvs W);have er:F.take (q*2)++F.drop ((q+1)*2)=rowW (W.take q++W.drop (q+1)):=by
   rw[axb,<-hF,(aju W q (Nat.le_of_lt hlt)).1,(aju W (q+1) hlt).2]
  rw[er]at cD;obtain⟨R,hR⟩:=Ex (rowW (W.take q++W.drop (q+1)));rw[hR]at cD;obtain⟨B2,hB2⟩:=Ex (B1.set k (.row 54 R));simp only[hB2]at cD;obtain⟨hki,hne⟩:=w.row_ne hk0;have s2:B2[i]?=some (.cells 52 [.str key,.bool true,.bs k 2 W.length]):=by rw[<-hB2];exact(azq hki).trans s1
  have lW:(W.take q++W.drop (q+1)).length=W.length-1:=by rw[Za,Zm,Zw];omega
  have sub:(W.take q++W.drop (q+1)).Sublist W:=by
   have:=List.Sublist.append (List.Sublist.refl (W.take q)) (List.drop_sublist_drop_left W (Nat.le_succ q))
   rwa [Yi]at this
  have hold:∀j x,j≠i->j≠k->b[j]?=some x->(B2.set i (setC key (.bs k 2 (W.length-1))))[j]?=some x:=fun j x h1 h2 hj=>(azq (Ne.symm h1)).trans (by rw[<-hB2];exact(azq (Ne.symm h2)).trans (by rw[<-hB1];exact azc (hb0 j x hj) _))
  have f0:Gone b (B2.set i (setC key (.bs k 2 (W.length-1)))) i key W q:=by
   refine⟨⟨.bs k 2 (W.length-1),⟨axi s2,?_,fun e he=>?_,w.ps.sublist (sub.map _),w.ms.sublist (sub.map _),List.Pairwise.sublist sub w.srt,by omega⟩⟩,fun j T l hj hbj=>hold j _ hj (fun ee=>by rw[ee,hk0]at hbj;cases hbj) hbj,?_⟩
   ·rw[<-lW];refine .row ?_;rw[hR,lW];exact(azq (Ne.symm hki)).trans (by rw[<-hB2];exact axi k1)
   ·have he:=sub.mem he;obtain⟨n1,n2,n3,n4⟩:=hne e he;obtain⟨h1,h2⟩:=w.ent e he;exact⟨hold _ _ n1 n3 h1,hold _ _ n2 n4 h2⟩
   ·rw[Zv,<-hB2,Zv,<-hB1,Za];omega
  unfold setC at f0;clear hold hb0;refine go0 (ai hbL (ai hkL (ai hz (ai g1' g3)))) ?_;refine gc0 (ai hbL (ai hkL (ai hz (ai g1' g3)))) ?_;refine c1.mono ?_;rintro v h' ⟨rfl,rfl⟩;refine go0 e1 ?_;refine gc0 e1 ?_;refine c2.mono ?_;rintro v h' ⟨rfl,rfl⟩;refine go0 (ai li (ai lp (ai w1 (ai e2 (ai hB1 (ai sb (ai s1 w2))))))) ?_;refine gc0 (ai li (ai lp (ai w1 (ai e2 (ai hB1 (ai sb (ai s1 w2))))))) ?_;refine cD.mono ?_;rintro v h' ⟨rfl,rfl⟩;refine go0 s2 ?_;exact⟨_,le_refl _,rfl,rfl,fun e=>absurd rfl e,fun _=>f0⟩
end
end AX
end
section
open Go.RowKit
namespace AX
def Grw(lo W:Nat)(T:TypeId)(L:List Blk)(rows:List (List A))(v:A):Prop:=(rows=[]/\v=.sl 0 .nil [])\/∃k,v=.bs (lo+k) W rows.length/\L[k]?=some (.row T rows.flatten)
def LocL(L:List Blk):Prop:=∀b∈L,b.loc 0\/b=.gone
theorem aq7{rows:List (List A)}{W:Nat}(hW:∀r∈rows,r.length=W):rows.flatten.length=rows.length*W:=by
 induction rows with
 |nil=>simp
 |cons r rows ih=>
  rw[ZP,Za,Zf,Yr,ih fun r hr=>hW r (ZL _ hr),hW r Yf];omega
theorem cvk{x:A}(h:x.data=true):x.loc 0=true:=by
 cases x with
 |sl W o rows=>cases o<;>first|(unfold A.loc;rfl)|(simp[A.data]at h)
 |_=>first|(unfold A.loc;rfl)|(simp[A.data]at h)
theorem ajs:∀{l:List A},l.all A.data=true->A.locL 0 l=true:=fun {l}=>by
 induction l with
 |nil=>intro _;unfold A.locL;rfl
 |cons x l ih=>
  intro h;rw[ZH,Zg]at h;unfold A.locL;rw[cvk h.1,ih h.2];rfl
theorem Grw.grow{lo W:Nat}{T:TypeId}{L:List Blk}{rows:List (List A)}{v:A}(hg:Grw lo W T L rows v)(hl:LocL L)(bytes:Nat)(x:List A)(hx:x.length=W)(hd:x.all A.data=true)(hW:∀r∈rows,r.length=W)(hrd:rows.flatten.all A.data=true)(hn:rows.length+1<=100000000)(hb:bytes<=1000):
  ∃(i n:Nat) (F:Blk->List Blk),(∀(p:List Blk) e,p.length=lo->appB ⟨p++(L++[e]),[]⟩ T W bytes v (.sl W .no [x])=some (.bs i W n,⟨p++F e,[]⟩))/\(∀e,Grw lo W T (F e) (rows++[x]) (.bs i W n))/\∀e:Blk,e.loc 0->LocL (F e):=by
 have hmul:(rows.length+1)*bytes<=140737488355328:=by
  have:=Nat.mul_le_mul hn hb;omega
 have hml:rows.length+1<=maxLen:=by unfold maxLen;omega
 have hrow:∀l:List A,l.all A.data=true->(Blk.row T l).loc 0:=fun l h=>ajs h
 rcases hg with⟨rfl,rfl⟩|⟨k,rfl,hk⟩
 ·refine⟨lo+(L.length+1),1,fun e=>L++[e]++[.row T x],fun p e hp=>?_,fun e=> .inr ⟨L.length+1,rfl,?_⟩,fun e he y hy=>?_⟩
  ·simp only[appB,rowC,if_true,Zf,Zo,ZP,List.flatten_nil,Zx,Za,hp];rw[if_pos (by omega),if_pos ⟨by unfold maxLen;omega,by simp only[Zo]at hmul;omega⟩,Zh]
  ·rw[List.getElem?_append_right (by simp)];simp
  ·rcases Yd.1 hy with hy|hy
   ·rcases Yd.1 hy with hy|hy
    ·exact hl y hy
    ·exact .inl (by rw[ZC.1 hy];exact he)
   ·exact .inl (by rw[ZC.1 hy];exact hrow _ hd)
 ·have hlt:k<L.length:=(Zc.1 hk).1;have hfl:=aq7 hW;refine⟨lo+(L.length+1),rows.length+1,fun e=>(L.set k .gone)++[e]++[.row T (rows++[x]).flatten],fun p e hp=>?_,fun e=> .inr ⟨L.length+1,by rw[Za];rfl,?_⟩,fun e he y hy=>?_⟩
  ·have hget:(p++(L++[e]))[lo+k]?=some (.row T rows.flatten):=by
    rw[List.getElem?_append_right (by omega),hp,show lo+k-lo=k by omega,Zt hlt];exact hk
   have hset:(p++(L++[e])).set (lo+k) .gone=p++(L.set k .gone++[e]):=by
    rw[List.set_append_right _ _ (by omega),hp,show lo+k-lo=k by omega,List.set_append_left k Blk.gone hlt]
   simp only[appB,rowC,if_true,Zf,Zo,ZP,List.flatten_nil,Zx,Za,hget,hset,hp];rw[if_pos (by omega),if_pos ⟨trivial,by simpa using hml,by simpa using hmul⟩,if_pos ⟨trivial,by omega⟩,Zz (by omega)];simp only[List.flatten_append,ZP,List.flatten_nil,Zx];rw[Zh]
  ·rw[List.getElem?_append_right (by simp)];simp
  ·rcases Yd.1 hy with hy|hy
   ·rcases Yd.1 hy with hy|hy
    ·rcases List.mem_or_eq_of_mem_set hy with hy|hy
     ·exact hl y hy
     ·exact .inr hy
    ·exact .inl (by rw[ZC.1 hy];exact he)
   ·have hfd:(rows++[x]).flatten.all A.data=true:=by
     rw[List.flatten_append,List.all_append,Zg];exact⟨hrd,by simpa using hd⟩
    exact .inl (by rw[ZC.1 hy];exact hrow _ hfd)
end AX
theorem bks(b off n c:Nat)(news:List Value)(w:World)(hl:news.length=n*1)(hn:0<n)(hbig:n*16<=140737488355328)(hmax:n<=maxLen)(hc:∀j v,news[j]?=some v->w.cell? ((⟨b,off,none⟩:Addr).add j)=some v)(h1:∀u∈news,u.oneCell'=true):
  Calls Tryz.prog 54 #[.slice (some ⟨b,off,none⟩) n c] w fun e w'=>∃v',e=.returned v'/\w'.ownsRow w.heap.size 9 1 v' n news/\Below w.heap.size w w':=by
 obtain⟨i0,hi,hz0,hz1,hz2⟩:=info_parts (show(Tryz.prog.info? 9).map (fun i=>(i.zero,i.size,i.bytes))=some (some (.string ⟨#[]⟩),1,16) by kernel_rfl);have q22:∀(w:World) (a:Option Addr) (n c n' c':Nat),(binOp .eql 30 (.slice a n c) (.slice none n' c')).run Tryz.prog w=.ok (.bool a.isNone) w:=fun w a n c n' c'=>Lib.run_eql_slice_nil w _ _ a n c n' c' Tryz.underlying30
 have u22:∀w,Sem.run Tryz.prog (underlying 30) w=.ok (TypeDesc.slice 9) w:=run_underlying Tryz.underlying30;have HC:=kept hc;have H1:=kept h1;clear hc h1;go_enter Tryz.func54,Tryz.ntmps54;go_wp2_with (at_builtin;refine wpList_append_own _ rfl _ _ 30 rfl w.heap.size 9 i0 (.string ⟨#[]⟩) 1 16 Tryz.underlying30 hi hz0 hz1 hz2 rfl (by decide) _ _ _ rfl (World.ownsRow_made w #[] 0 (Ze _) (ZV _) rfl) ⟨b,off,none⟩ n c news rfl ?qc1 ?qc2 ?qc3 ?qc4 ?qc5 ?qc6 ?_)
 case qc1=>exact hl
 case qc2=>
  intro j u hj;have:=HC.out j u hj;rw[Addr.add_lit]at this⊢;exact Lib.cell?_alloc_some _ this
 case qc3=>exact H1.out
 case qc4=>omega
 case qc5=>omega
 case qc6=>simp
 intro v' w1 hown hgrow hnil;have Hb:=kept (((Below.refl _ w).alloc (Ze _) (.cells #[] 9)).grown hgrow (by simp) (by intro k hk;simp[Value.ownBlock]at hk;omega));have Ho:=kept (show w1.ownsRow w.heap.size 9 1 v' n news by simpa using hown);clear hown hgrow hnil HC H1;go_wp2
 go_ret
 exact⟨v',rfl,Ho.out,Hb.out⟩
theorem bx2(a:Option Addr)(c:Nat)(w:World):
  Calls Tryz.prog 54 #[.slice a 0 c] w fun e w'=>(∃a' c',e=.returned (.slice a' 0 c'))/\Below w.heap.size w w':=by
 have q22:∀(w:World) (a:Option Addr) (n c n' c':Nat),(binOp .eql 30 (.slice a n c) (.slice none n' c')).run Tryz.prog w=.ok (.bool a.isNone) w:=fun w a n c n' c'=>Lib.run_eql_slice_nil w _ _ a n c n' c' Tryz.underlying30
 have u22:∀w,Sem.run Tryz.prog (underlying 30) w=.ok (TypeDesc.slice 9) w:=run_underlying Tryz.underlying30;cases a with
 |none=>
  go_enter Tryz.func54,Tryz.ntmps54;go_wp2
  go_ret
  exact⟨⟨_,_,rfl⟩,Below.refl _ _⟩
 |some ad=>
  obtain⟨i0,hi,hz0,hz1,hz2⟩:=info_parts (show(Tryz.prog.info? 9).map (fun i=>(i.zero,i.size,i.bytes))=some (some (.string ⟨#[]⟩),1,16) by kernel_rfl);go_enter Tryz.func54,Tryz.ntmps54;go_wp2_with (at_builtin;refine wpList_append_own _ rfl _ _ 30 rfl w.heap.size 9 i0 (.string ⟨#[]⟩) 1 16 Tryz.underlying30 hi hz0 hz1 hz2 rfl (by decide) _ _ _ rfl (World.ownsRow_made w #[] 0 (Ze _) (ZV _) rfl) ad 0 c [] rfl rfl (by intro j u hj;simp at hj) (by intro u hu;cases hu) (by unfold maxLen;omega) (by omega) (by simp) ?_);intro v' w1 hown hgrow hnil;have Hb:=kept (((Below.refl _ w).alloc (Ze _) (.cells #[] 9)).grown hgrow (by simp) (by intro k hk;simp[Value.ownBlock]at hk;omega));have Hv:∃a' c',v'=.slice a' 0 c':=by
   rcases hown.2 with⟨rfl,_⟩|⟨g,cap,cur,rfl,_⟩
   ·exact⟨_,_,rfl⟩
   ·exact⟨_,_,rfl⟩
  obtain⟨a',c',rfl⟩:=Hv;clear hown hgrow hnil;go_wp2
  go_ret
  exact⟨⟨_,_,rfl⟩,Hb.out⟩
namespace AX
theorem ays(W0:Nat)(o:Own)(h:Hp):AT 54 [.sl W0 o []] h (.sl 1 .no []):=by
 intro C es hI ha;obtain⟨c,es',rfl,h1,h2⟩:=repL_cons.1 ha;rw[azo]at h2;subst h2;obtain⟨a,cap,rfl,_,_,_⟩:=rep_sl.1 h1;refine(bx2 a cap C.w).mono ?_;rintro e w' ⟨⟨a',c',rfl⟩,hb⟩;obtain⟨i1,s1⟩:=aq2 hI hb;exact⟨C.at w',h,.sl 1 .no [],_,rfl,rfl,i1,s1,rep_sl.2 ⟨a',c',rfl,ZV _,by unfold RepRows;trivial,trivial⟩,rfl,rfl⟩
theorem avr(o:Own)(rows:List (List A))(h0:rows≠[])(hbig:rows.length*16<=140737488355328)(hmax:rows.length<=maxLen)(h:Hp):
  AC 54 [.sl 1 o rows] h fun v h'=>v=.bs h.b.length 1 rows.length/\h'=⟨h.b++[.row 9 rows.flatten],h.t⟩:=by
 intro C es hI ha;obtain⟨c,es',rfl,h1,h2⟩:=repL_cons.1 ha;rw[azo]at h2;subst h2;have hpos:0<rows.length:=Yp.2 h0;obtain⟨g,off,cap,cs,rfl,k1,k2,k3,k4,k5⟩:=av5 h1 hpos;refine(bks g off rows.length cap cs C.w k2 hpos hbig hmax k5 (aqb k1 (ajz k3))).mono ?_;rintro e w' ⟨v',rfl,hown,hb⟩;rcases hown.2 with⟨_,hz⟩|⟨g',cap',cur,rfl,hg,hh,hcap,hcm,hcs,htake⟩
 ·omega
 ·have hcur:cur=(cs++cur.toList.drop (rows.length*1)).toArray:=by
   apply ZZ.1;rw[<-htake];simp
  rw[hcur]at hh;obtain⟨C',m1,m2,m3,m4,m5,m6⟩:=axj hI hb hg hh k1;exact⟨C',_,.bs h.b.length 1 rows.length,_,rfl,m1,m2,m3,rep_bs.2 ⟨cap',by rw[m4],hcap,m5,hcm,by rw[m6,<-hcs];exact Nat.le_of_eq (congrArg Array.size hcur)⟩,rfl,rfl⟩
end AX
namespace AX
end AX
namespace AX
theorem cjb(ks:List (List UInt8))(hn:ks.length<=1000000000)(h:Hp):AT 54 [.sl 1 .no (strsA ks)] h (.sl 1 .no (strsA ks)):=by
 cases ks with
 |nil=>exact ays _ _ h
 |cons k l=>
  have hl:(strsA (k::l)).length=(k::l).length:=aze _;refine pcallv (ACall.mono (avr .no (strsA (k::l)) (by simp[strsA]) (by rw[hl];omega) (by rw[hl];unfold maxLen;omega) ⟨[],[]⟩) ?_) (by simp[A.pure,A.data]) h;rintro v h' ⟨rfl,rfl⟩;refine .one (.inr ⟨0,1,_,strsA (k::l),rfl,rfl,rfl,fun r hr=>?_,?_⟩)
  ·obtain⟨s,_,rfl⟩:=Ye.1 hr;rfl
  ·rw[ZD];intro x hx;obtain⟨r,hr,hx⟩:=List.mem_flatten.1 hx;obtain⟨s,_,rfl⟩:=Ye.1 hr;rw[ZC.1 hx];rfl
end AX
theorem awk(w:World):Calls Tryz.prog 54 #[.slice none 0 0] w fun e w'=>e=.returned (.slice none 0 0)/\Below w.heap.size w w':=by
 have q22:∀(w:World) (a:Option Addr) (n c n' c':Nat),(binOp .eql 30 (.slice a n c) (.slice none n' c')).run Tryz.prog w=.ok (.bool a.isNone) w:=fun w a n c n' c'=>Lib.run_eql_slice_nil w _ _ a n c n' c' Tryz.underlying30
 have u22:∀w,Sem.run Tryz.prog (underlying 30) w=.ok (TypeDesc.slice 9) w:=run_underlying Tryz.underlying30;go_enter Tryz.func54,Tryz.ntmps54;go_wp2
 go_ret
 exact⟨rfl,Below.refl _ _⟩
theorem AX.a_clone_strs_nil(W:Nat)(h:AX.Hp):AX.AT 54 [.sl W .nil []] h (.sl 0 .nil []):=by
 intro C es hI ha;obtain⟨c,es',rfl,h1,h2⟩:=AX.repL_cons.1 ha;rw[AX.azo]at h2;subst h2;obtain⟨a,cap,rfl,_,_,hn⟩:=AX.rep_sl.1 h1;obtain⟨rfl,rfl,_⟩:=hn;refine(awk C.w).mono ?_;rintro e w' ⟨rfl,hb⟩;obtain⟨i1,s1⟩:=AX.aq2 hI hb;exact⟨C.at w',h,.sl 0 .nil [],_,rfl,rfl,i1,s1,AX.rep_sl.2 ⟨none,0,rfl,Ze _,by unfold AX.RepRows;trivial,rfl,rfl,rfl⟩,rfl,rfl⟩
end
section
mutual
def V.few:V->Prop
 |.mk k n s is ks=>is.length<=2000000/\ks.length<=2000000/\V.fews is
def V.fews:List V->Prop
 |[]=>True
 |v::l=>v.few/\V.fews l
end
theorem V.fews_mem:∀{l:List V},V.fews l->∀x∈l,x.few
 |[],_=>by simp
 |v::l,h=>by
  unfold V.fews at h;exact Zak.2 ⟨h.1,V.fews_mem h.2⟩
end
section
open Go.RowKit
namespace AX
theorem cz3{α:Type}(f:α->List A)(l:List α)(i:Nat)(h:i<l.length)(hl:l.length<=4611686018427387904):
  (l.map f).length=l.length/\(i:Int)<(l.length:Int)/\(0:Int)<=(i:Int)/\(l.map f).getD i []=f l[i]/\IntKind.i64.wrap ((i:Int)+1)=((i+1:Nat):Int):=
 ⟨Zl _,by omega,by omega,by simp[List.getD,h],by rw[wrap64 (by omega) (by omega)];omega⟩
theorem bvn{α:Type}(f:α->List A)(l:List α)(i:Nat)(h:l.length<=i):(l.map f).length=l.length/\¬(i:Int)<(l.length:Int):=⟨Zl _,by omega⟩
def aqt:AX.AFn:=⟨12,aS [aR 1 (.box 32 (.t 0)),aR 2 (.alloc 32 [.int .i64 0,.int .i64 0,.str [],.sl 0 .nil [],.sl 0 .nil []])] (aS [aF 3 4 1,aL 4 3,aR 5 (.call 54 [.t 4]),aF 6 4 1,aU (.store 1 (.t 6) (.t 5))] (aS [aF 7 3 1,aL 8 7,aR 9 (.call 55 [.t 8]),aF 10 3 1,aU (.store 1 (.t 10) (.t 9))] (aS [aR 11 (.load true 5 (.t 1)),aU (.store 5 (.t 2) (.t 11))] (.ret)))),[.c 2 true 5]⟩
theorem aka:AX.compFn Tryz.prog 36=some aqt:=by kernel_rfl
def aqo:AX.AFn:=⟨25,aS [aR 2 (.mv (.c (.sl 0 .nil [])))] (.seq (aS [aM 6 0,aR 7 (.len false (.t 6)),aR 8 (.bin .eql (.t 7) (aI 0))] (.cond (.t 8) (aS [aR 2 (.mv (.c (.sl 0 .nil [])))] (.ret)) (.skip))) (aS [aM 9 0,aR 10 (.len false (.t 9)),aR 11 (.mkc 32 5 80 [.int .i64 0,.int .i64 0,.str [],.sl 0 .nil [],.sl 0 .nil []] (aI 0) (.t 10)),aM 3 11] (.seq (aS [aM 12 0,aR 13 (.len false (.t 12)),aR 14 (.mv (aI 0))] (.block 0 (.loop (aS [aR 15 (.bin .lss (.t 14) (.t 13))] (.seq (.cond (.t 15) (.skip) (.exit 0)) (.seq (.block 1 (aS [aR 16 (.iaddr 5 (.t 12) (.t 14)),aR 17 (.load true 5 (.t 16)),aR 5 (.alloc 32 [.int .i64 0,.int .i64 0,.str [],.sl 0 .nil [],.sl 0 .nil []]),aU (.store 5 (.t 5) (.t 17))] (.reg false [aM 18 3,aR 19 (.load true 5 (.t 5)),aR 20 (.call 36 [.t 19]),aR 21 (.mks 5 [.t 20]),aR 22 (.apb 32 5 80 (.t 18) (.t 21)),aM 3 22]))) (.reg false [aR 23 (.bin .add (.t 14) (aI 1)),aM 14 23]))))))) (aS [aM 24 3,aM 2 24] (.ret))))),[.t 2]⟩
theorem ak1:AX.compFn Tryz.prog 55=some aqo:=by kernel_rfl
def bq4:AX.AFn:=⟨58,aS [aR 3 (.box 32 (.t 0)),aR 5 (.box 32 (.t 2)),aR 6 (.alloc 32 [.int .i64 0,.int .i64 0,.str [],.sl 0 .nil [],.sl 0 .nil []])] (aS [aR 10 (.load true 5 (.t 3)),aR 11 (.call 36 [.t 10]),aR 7 (.alloc 32 [.int .i64 0,.int .i64 0,.str [],.sl 0 .nil [],.sl 0 .nil []]),aU (.store 5 (.t 7) (.t 11))] (aS [aF 13 4 7,aL 14 13,aM 15 1,aR 16 (.call 37 [.t 14,.t 15]),aM 12 16,aE 17 12 0,aE 18 12 1,aM 8 17,aM 9 18] (.seq (aS [aM 19 8,aF 20 3 7,aL 21 20,aR 22 (.len false (.t 21)),aR 23 (.bin .gtr (.t 19) (.t 22)),aM 24 23,aG 25 (.mv (.t 9)) 24 false,aG 26 (.mv (.t 25)) 24 false,aG 27 (.mv (.t 8)) 26 true,aG 28 (.faddr 3 (.t 7)) 26 true,aG 29 (.load false 1 (.t 28)) 26 true,aG 30 (.len false (.t 29)) 26 true,aG 31 (.bin .eql (.t 27) (.t 30)) 26 true,aG 32 (.pick (.t 26) (.t 31) (.c (.bool false))) 24 false,aR 33 (.pick (.t 24) (.c (.bool true)) (.t 32))] (.cond (.t 33) (aS [aR 34 (.load true 5 (.t 7)),aU (.store 5 (.t 6) (.t 34))] (.ret)) (.skip))) (.seq (aS [aM 35 9,aR 36 (.un .not (.t 35))] (.cond (.t 36) (aS [aF 37 4 7,aL 38 37,aM 39 8,aM 40 1,aR 41 (.mks 1 [.t 40]),aR 42 (.call 38 [.t 38,.t 39,.t 41]),aF 43 4 7,aU (.store 1 (.t 43) (.t 42))] (.reg false [aF 44 3 7,aL 45 44,aM 46 8,aR 47 (.build [.int .i64 0,.int .i64 0,.str [],.sl 0 .nil [],.sl 0 .nil []] []),aR 48 (.mkl 32 5 [.t 47]),aR 49 (.call 39 [.t 45,.t 46,.t 48]),aF 50 3 7,aU (.store 1 (.t 50) (.t 49))])) (.skip))) (.seq (.reg true [aF 51 3 7,⟨some 52,.load false 1 (.t 51),none,[0]⟩,aM 53 8,aR 54 (.load true 5 (.t 5)),⟨some 55,.call 36 [.t 54],none,[3]⟩,⟨some 56,.iaddr 5 (.t 52) (.t 53),none,[1,2,0,1,2,3,4]⟩,⟨none,.store 5 (.t 56) (.t 55),none,[5,4,4,0,1,2,3,4]⟩]) (aS [aR 57 (.load true 5 (.t 7)),aU (.store 5 (.t 6) (.t 57))] (.ret))))))),[.c 6 true 5]⟩
theorem cvt:AX.compFn Tryz.prog 19=some bq4:=by kernel_rfl
def ak6:AX.AFn:=⟨54,aS [aR 4 (.mv (aI 0)),aR 5 (.mv (.c (.bool false)))] (aS [aM 10 0,aR 11 (.len false (.t 10)),aM 6 11] (aS [aM 12 6,aR 7 (.mv (aI 0)),aM 8 12] (.seq (.block 0 (.loop (.seq (aS [aM 13 7,aM 14 8,aR 15 (.bin .lss (.t 13) (.t 14))] (.cond (.t 15) (.skip) (.exit 0))) (.block 1 (aS [aM 16 7,aM 17 8,aR 18 (.bin .add (.t 16) (.t 17)),aR 19 (.conv .u64 (.t 18)),aR 20 (.bin .shr (.t 19) (.c (.int .u64 1))),aR 21 (.conv .i64 (.t 20)),aM 9 21] (aS [aM 22 0,aM 23 9,aR 24 (.iaddr 1 (.t 22) (.t 23)),aL 25 24,aM 26 1,aR 27 (.call 56 [.t 25,.t 26])] (.cond (.t 27) (.reg false [aM 28 9,aR 29 (.bin .add (.t 28) (aI 1)),aM 7 29]) (.reg false [aM 30 9,aM 8 30])))))))) (aS [aM 31 7,aM 32 7,aM 33 6,aR 34 (.bin .lss (.t 32) (.t 33)),aM 35 34,aG 36 (.mv (.t 0)) 35 true,aG 37 (.mv (.t 7)) 35 true,aG 38 (.iaddr 1 (.t 36) (.t 37)) 35 true,aG 39 (.load false 1 (.t 38)) 35 true,aG 40 (.mv (.t 1)) 35 true,aG 41 (.bin .eql (.t 39) (.t 40)) 35 true,aG 42 (.mv (.t 41)) 35 true,aG 43 (.mv (.t 0)) 42 false,aG 44 (.mv (.t 7)) 42 false,aG 45 (.iaddr 1 (.t 43) (.t 44)) 42 false,aG 46 (.load false 1 (.t 45)) 42 false,aG 47 (.call 57 [.t 46]) 42 false,aG 48 (.mv (.t 47)) 42 false,aG 49 (.mv (.t 1)) 48 true,aG 50 (.call 57 [.t 49]) 48 true,aG 51 (.pick (.t 48) (.t 50) (.c (.bool false))) 42 false,aG 52 (.pick (.t 42) (.c (.bool true)) (.t 51)) 35 true,aR 53 (.pick (.t 35) (.t 52) (.c (.bool false))),aM 4 31,aM 5 53] (.ret))))),[.t 4,.t 5]⟩
theorem cza:AX.compFn Tryz.prog 37=some ak6:=by kernel_rfl
def akw:AX.AFn:=⟨17,aS [aR 4 (.mv (.c (.bool false)))] (aS [aM 5 0,aR 6 (.call 89 [.t 5]),aM 7 6,aG 8 (.mv (.t 1)) 7 true,aG 9 (.call 89 [.t 8]) 7 true,aG 10 (.un .not (.t 9)) 7 true,aR 11 (.pick (.t 7) (.t 10) (.c (.bool false))),aM 12 11,aG 13 (.mv (.t 0)) 12 false,aG 14 (.mv (.t 1)) 12 false,aG 15 (.bin .lss (.t 13) (.t 14)) 12 false,aR 16 (.pick (.t 12) (.c (.bool true)) (.t 15)),aM 4 16] (.ret)),[.t 4]⟩
theorem bws:AX.compFn Tryz.prog 56=some akw:=by kernel_rfl
def ayt:AX.AFn:=⟨6,aS [aR 2 (.mv (.c (.bool false)))] (aS [aM 3 0,aM 4 0,aR 5 (.bin .neq (.t 3) (.t 4)),aM 2 5] (.ret)),[.t 2]⟩
theorem cvo:AX.compFn Tryz.prog 89=some ayt:=by kernel_rfl
noncomputable def ajo:AX.AFn:=⟨95,aS [aR 6 (.mv (.c (.sl 0 .nil [])))] (aS [aM 10 0,aM 11 1,aR 12 (.slsl 1 (.t 10) (some (.t 11)) none)] (aS [aM 13 2,aR 14 (.len false (.t 13)),aM 7 14] (.seq (aS [aM 15 7,aR 16 (.bin .eql (.t 15) (aI 0))] (.cond (.t 16) (aS [aM 17 0,aM 6 17] (.ret)) (.skip))) (aS [aM 18 0,aR 19 (.len false (.t 18)),aM 8 19] (.seq (aS [aM 20 1,aM 21 8,aR 22 (.bin .eql (.t 20) (.t 21))] (.cond (.t 22) (aS [aM 23 0,aM 24 2,aR 25 (.apb 9 1 16 (.t 23) (.t 24)),aM 6 25] (.ret)) (.skip))) (.seq (.seq (.prim 95 (AX.rg Tryz.prog 38 0)) (.cond (.t 31) (.seq (.prim 95 (AX.rg Tryz.prog 38 1)) (.seq (.prim 95 (AX.rg Tryz.prog 38 2)) (.seq (.prim 95 (AX.rg Tryz.prog 38 3)) (aS [aM 55 9,aM 6 55] (.ret))))) (.skip))) (aS [aM 56 0,aM 57 8,aM 58 7,aR 59 (.bin .add (.t 57) (.t 58)),aR 60 (.slsl 1 (.t 56) none (some (.t 59))),aM 0 60] (.seq (.seq (.prim 95 (AX.rg Tryz.prog 38 4)) (.cond (.t 68) (.seq (.prim 95 (AX.rg Tryz.prog 38 5)) (.seq (.prim 95 (AX.rg Tryz.prog 38 6)) (aS [aM 83 0,aM 6 83] (.ret)))) (.skip))) (.seq (.prim 95 (AX.rg Tryz.prog 38 7)) (aS [aM 89 0,aM 90 1,aR 91 (.slsl 1 (.t 89) (some (.t 90)) none),aM 92 7,aR 93 (.call 59 [.t 91,.t 92])] (aS [aM 94 0,aM 6 94] (.ret)))))))))))),[.t 6]⟩
theorem bvo:AX.compFn Tryz.prog 38=some ajo:=by kernel_rfl
noncomputable def ajj:AX.AFn:=⟨95,aS [aR 6 (.mv (.c (.sl 0 .nil [])))] (aS [aM 10 0,aM 11 1,aR 12 (.slsl 5 (.t 10) (some (.t 11)) none)] (aS [aM 13 2,aR 14 (.len false (.t 13)),aM 7 14] (.seq (aS [aM 15 7,aR 16 (.bin .eql (.t 15) (aI 0))] (.cond (.t 16) (aS [aM 17 0,aM 6 17] (.ret)) (.skip))) (aS [aM 18 0,aR 19 (.len false (.t 18)),aM 8 19] (.seq (aS [aM 20 1,aM 21 8,aR 22 (.bin .eql (.t 20) (.t 21))] (.cond (.t 22) (aS [aM 23 0,aM 24 2,aR 25 (.apb 32 5 80 (.t 23) (.t 24)),aM 6 25] (.ret)) (.skip))) (.seq (.seq (.prim 95 (AX.rg Tryz.prog 39 0)) (.cond (.t 31) (.seq (.prim 95 (AX.rg Tryz.prog 39 1)) (.seq (.prim 95 (AX.rg Tryz.prog 39 2)) (.seq (.prim 95 (AX.rg Tryz.prog 39 3)) (aS [aM 55 9,aM 6 55] (.ret))))) (.skip))) (aS [aM 56 0,aM 57 8,aM 58 7,aR 59 (.bin .add (.t 57) (.t 58)),aR 60 (.slsl 5 (.t 56) none (some (.t 59))),aM 0 60] (.seq (.seq (.prim 95 (AX.rg Tryz.prog 39 4)) (.cond (.t 68) (.seq (.prim 95 (AX.rg Tryz.prog 39 5)) (.seq (.prim 95 (AX.rg Tryz.prog 39 6)) (aS [aM 83 0,aM 6 83] (.ret)))) (.skip))) (.seq (.prim 95 (AX.rg Tryz.prog 39 7)) (aS [aM 89 0,aM 90 1,aR 91 (.slsl 5 (.t 89) (some (.t 90)) none),aM 92 7,aR 93 (.call 61 [.t 91,.t 92])] (aS [aM 94 0,aM 6 94] (.ret)))))))))))),[.t 6]⟩
theorem bv1:AX.compFn Tryz.prog 39=some ajj:=by kernel_rfl
theorem V.cellsD(v:V):v.cells.all A.data=true:=by obtain⟨k,n,s,is,ks⟩:=v;simp[V.cells,A.data]
theorem V.cells_len5(v:V):v.cells.length=5:=by obtain⟨k,n,s,is,ks⟩:=v;simp[V.cells]
theorem aq0(l:List V):(∀r∈V.cellss l,r.length=5)/\(V.cellss l).flatten.all A.data=true:=by
 rw[V.cellss_map];refine⟨fun r hr=>by obtain⟨y,_,rfl⟩:=Ye.1 hr;exact V.cells_len5 y,?_⟩;rw[ZD];intro x hx;obtain⟨r,hr,hx⟩:=List.mem_flatten.1 hx;obtain⟨y,_,rfl⟩:=Ye.1 hr;exact ZD.1 (V.cellsD y) x hx
theorem ax2(l:List (List UInt8)):(∀r∈strsA l,r.length=1)/\(strsA l).flatten.all A.data=true/\∀i (h:i<l.length),((strsA l).flatten.drop i).take 1=[.str l[i]]:=by
 refine⟨fun r hr=>by obtain⟨y,_,rfl⟩:=Ye.1 hr;rfl,?_,?_⟩
 ·rw[ZD];intro x hx;obtain⟨r,hr,hx⟩:=List.mem_flatten.1 hx;obtain⟨y,_,rfl⟩:=Ye.1 hr;rw[ZC.1 hx];rfl
 ·induction l with
  |nil=>intro i h;cases h
  |cons s l ih=>
   intro i h;cases i with
   |zero=>rfl
   |succ i=>exact ih i (by simpa using h)
theorem bqt(l:List (List UInt8)):(strsA l).flatten.length=l.length:=by
 rw[aq7 (ax2 l).1,aze,Nat.mul_one]
theorem bq8(l:List V)(hn:l.length<=2000000)(ih:∀v∈l,∀h,AT 36 [v.A] h (v.A)):
  AC 55 [.sl 5 .no (V.cellss l)] ⟨[],[]⟩ fun v h'=>∃L,h'=⟨L,[]⟩/\Grw 0 5 32 L (V.cellss l) v/\LocL L:=by
 rw[V.cellss_map];have li:(l.map V.cells).length=l.length:=Zl _;refine aza mixedT ak1 (by simp[aqo]) ?_;dsimp only[aqo];by_cases h0:l.length=0
 ·obtain rfl:=YK.1 h0;have z0:(((0:Nat):Int)==0)=true:=rfl;refine azn z0 ti ?_;exact⟨_,le_refl _,[],rfl,.inl ⟨rfl,rfl⟩,fun b hb=>by cases hb⟩
 have z1:((l.length:Int)==0)=false:=by rw[Zs];omega
 have z2:(0:Int)<=(l.length:Int):=by omega
 have z3:(l.length:Int)<=1000000000000:=by omega
 have z4:(l.length:Int)*((80:Nat):Int)<=140737488355328:=by omega
 have z5:zrows 0 [.int .i64 0,.int .i64 0,.str [],.sl 0 .nil [],.sl 0 .nil []]=[]:=rfl;refine azn (ai li (ai z1 (ai z2 (ai z3 (ai z4 z5))))) ti ?_
 refine azh (fun m ts hh=>∃(j:Nat) (L:List Blk) (i n:Nat),m=l.length-j/\j<=l.length/\hh=⟨L,[]⟩/\Grw 0 5 32 L ((l.take j).map V.cells) (.bs i 5 n)/\LocL L /\
  (ts 3=.bs i 5 n/\ts 12=.sl 5 .no (l.map V.cells)/\ts 13=.int .i64 (l.length:Nat)/\ts 14=.int .i64 (j:Nat))) l.length ?_ ?_
 ·exact⟨0,_,0,0,rfl,ZV _,rfl,.inr ⟨0,rfl,rfl⟩,fun b hb=> .inl (by rw[ZC.1 hb];show A.locL 0 []=true;unfold A.locL;rfl),by(exact aqg li)⟩
 clear z1 z2 z3 z4 z5;rintro m ts hh ⟨j,L,i,n,rfl,hj,rfl,hg,hL,ht⟩;rcases YH j l.length with hlt|hge
 ·have hf:=cz3 V.cells l j hlt (by omega);have em:(l.take j).map V.cells++[V.cells l[j]]=(l.take (j+1)).map V.cells:=by
   have e:l.take (j+1)=l.take j++[l[j]]:=(List.take_append_getElem hlt).symm;rw[e,YV];rfl
  obtain⟨i',n',F,hX,gX,hL'⟩:=hg.grow hL 80 (V.cells l[j]) (V.cells_len5 _) (V.cellsD _) (fun r hr=>by obtain⟨y,_,rfl⟩:=Ye.1 hr;exact V.cells_len5 y) (by have:=(aq0 (l.take j)).2;rwa [V.cellss_map]at this) (by rw[Zl,Zm];omega) (by decide);rw[em]at gX;have cx:=ih _ (ZB hlt);have gX':=gX (.cells 32 (V.cells l[j]));have hL2:=hL' (.cells 32 (V.cells l[j])) (ajs (V.cellsD _));have hX':=hX [] (.cells 32 (V.cells l[j])) rfl;simp only[ZA]at hX';clear hX gX hL' em ih;obtain⟨v,hv⟩:=Ex (l[j]);rw[hv]at hf cx hX' hL2;rw[hv]at gX';obtain⟨F2,hF2⟩:=Ex (F (.cells 32 v.cells));rw[hF2]at hX' hL2 gX';clear hF2 hv;obtain⟨k,nn,ss,is,ks⟩:=v;rw[V_A]at cx;simp only[V.cells]at hf cx hX';refine azn (ai ht (ai hf hX')) (ai cx ti) ?_;exact⟨_,by omega,j+1,F2,i',n',rfl,by omega,rfl,gX',hL2,by(exact aqg (ai ht hf))⟩
 have hf:=bvn V.cells l j hge;rw[Zz hge]at hg;refine azn (ai ht hf) ti ?_;exact⟨_,le_refl _,L,rfl,hg,hL⟩
theorem LocL.ren{L:List Blk}(h:LocL L)(σ:Nat->Nat):L.map (Blk.ren σ)=L:=by
 conv=>rhs;rw[<-List.map_id L]
 refine List.map_congr_left fun b hb=>?_
 rcases h b hb with h|rfl
 ·exact(Blk.loc0 0 b h).2 σ
 ·rfl
theorem by8(l:List V)(hn:l.length<=2000000)(ih:∀v∈l,∀h,AT 36 [v.A] h (v.A))(h:Hp):
  AC 55 [.sl 5 .no (V.cellss l)] h fun v h'=>∃L,h'=⟨h.b++L,h.t⟩/\Grw h.b.length 5 32 L (V.cellss l) v/\LocL L:=by
 refine(ACall.fresh (bq8 l hn ih) ?_ (by simp[A.pure,A.data]) h).mono ?_
 ·rintro v h' ⟨L,rfl,hg,hL⟩;refine⟨?_,fun b hb=>(hL b hb).imp (fun h=>(Blk.loc0 _ b h).1) id⟩;rcases hg with⟨_,rfl⟩|⟨k,rfl,hk⟩
  ·unfold A.loc;rfl
  ·have:=(Zc.1 hk).1;unfold A.loc;simp;omega
 ·rintro v h' ⟨v0,⟨b0,t0⟩,⟨L,e,hg,hL⟩,rfl,rfl⟩;injection e with e1 e2;subst e1;refine⟨b0,by rw[hL.ren],?_,hL⟩;rcases hg with⟨h1,rfl⟩|⟨k,rfl,hk⟩
  ·exact .inl ⟨h1,by unfold A.ren;rfl⟩
  ·exact .inr ⟨k,by rw[Yc];unfold A.ren;rfl,hk⟩
theorem czk(l:List V)(hn:l.length<=2000000)(ih:∀v∈l,∀h,AT 36 [v.A] h (v.A))(h:Hp):
  AT 55 [.sl 5 .no (V.cellss l)] h (.sl 5 .no (V.cellss l)):=by
 by_cases h0:l=[]
 ·subst h0;refine pcall ?_ rfl (by simp[A.pure,A.data]) h;refine aza mixedT ak1 (by simp[aqo]) ?_;dsimp only[aqo];rw[show V.cellss []=[] by rw[V.cellss]];have z0:(((0:Nat):Int)==0)=true:=rfl;refine azn z0 ti ?_;exact⟨.sl 5 .no [],⟨rfl,.inr rfl,.inl rfl⟩,rfl⟩
 refine pcallv (ACall.mono (bq8 l hn ih) ?_) (by simp[A.pure,A.data]) h;rintro v h' ⟨L,rfl,hg,_⟩;obtain⟨hW,hd⟩:=aq0 l;rcases hg with⟨h1,_⟩|⟨k,rfl,hk⟩
 ·rw[V.cellss_map,List.map_eq_nil_iff]at h1;exact absurd h1 h0
 ·exact .one (.inr ⟨_,_,_,V.cellss l,rfl,by rw[Yc];exact hk,rfl,hW,hd⟩)
theorem akm:∀v:V,v.few->∀h,AT 36 [v.A] h (v.A):=by
 refine V.induct ?_;intro k n s is ks ih hfew h;unfold V.few at hfew;obtain⟨hl1,hl2,hfs⟩:=hfew;have ck:=cjb ks (by omega);have cp:=czk is hl1 fun v hv=>ih v hv (V.fews_mem hfs v hv)
 have hVA:(V.mk k n s is ks).A=.agg [.int .i64 k,.int .i64 n,.str s,.sl 5 .no (V.cellss is),.sl 1 .no (strsA ks)]:=by simp only[V.A,V.cells]
 rw[hVA];refine pcall ?_ rfl (by simp[A.pure,A.data]) h;refine aza mixedT aka (by simp[aqt]) ?_;dsimp only[aqt];refine azn ti (ai ck (ai cp ti)) ?_;exact Fn rfl
theorem bk6(k n:Int)(s:List UInt8)(is:List V)(ks:List (List UInt8))(hi:is≠[])(hk:ks≠[])(hf:(V.mk k n s is ks).few)(h:Hp):
  AC 36 [(V.mk k n s is ks).A] h fun v h'=>∃(L:List Blk) (i j:Nat),h'=⟨h.b++L,h.t⟩/\v=.agg [.int .i64 k,.int .i64 n,.str s,.bs i 5 is.length,.bs j 1 ks.length] /\
   (h.b++L)[i]?=some (.row 32 (V.cellss is).flatten)/\(h.b++L)[j]?=some (.row 9 (strsA ks).flatten)/\h.b.length<=i/\h.b.length<=j:=by
 unfold V.few at hf;obtain⟨hl1,hl2,hfs⟩:=hf;have lk:=aze ks;have li:=V.cellss_length is;have ck:=fun h=>avr .no (strsA ks) (by intro e;rw[e]at lk;exact hk (YK.1 lk.symm)) (by omega) (by unfold maxLen;omega) h
 have cp:=fun h=>by8 is hl1 (fun v hv=>akm v (V.fews_mem hfs v hv)) h
 have hVA:(V.mk k n s is ks).A=.agg [.int .i64 k,.int .i64 n,.str s,.sl 5 .no (V.cellss is),.sl 1 .no (strsA ks)]:=by simp only[V.A,V.cells]
 rw[hVA];have key:AC 36 [.agg [.int .i64 k,.int .i64 n,.str s,.sl 5 .no (V.cellss is),.sl 1 .no (strsA ks)]] ⟨[],[]⟩ fun v h'=>∃(b0 b1:Blk) (L:List Blk) (q:Nat),h'=⟨b0::b1 :: .row 9 (strsA ks).flatten::L,[]⟩/\v=.agg [.int .i64 k,.int .i64 n,.str s,.bs (3+q) 5 is.length,.bs 2 1 ks.length]/\L[q]?=some (.row 32 (V.cellss is).flatten)/\LocL L/\b0.loc (3+L.length)/\b1.loc (3+L.length):=by
  rw[lk]at ck;refine aza mixedT aka (by simp[aqt]) ?_;dsimp only[aqt];refine go0 ti ?_;refine gc0 ti ?_;refine(ck _).mono ?_;rintro v h' ⟨rfl,rfl⟩;refine go0 ti ?_;refine gc0 ti ?_;refine(cp _).mono ?_;rintro v h' ⟨L,rfl,hg,hL⟩;simp only[ZK,ZA,Zf,Zo];rcases hg with⟨h1,_⟩|⟨q,rfl,hq⟩
  ·rw[h1]at li;exact absurd (YK.1 li.symm) hi
  rw[li];refine go0 ti ?_;refine⟨_,le_refl _,_,_,L,q,rfl,rfl,hq,hL,?_,?_⟩
  ·have:=(Zc.1 hq).1;show A.locL _ _=true
   simp[A.locL,A.loc];omega
  ·have:=(Zc.1 hq).1;show A.locL _ _=true
   simp[A.locL,A.loc];omega
 refine(ACall.fresh key ?_ (by simp[A.pure,A.data]) h).mono ?_
 ·rintro v h' ⟨b0,b1,L,q,rfl,rfl,hq,hL,l0,l1⟩;have hq':=(Zc.1 hq).1;have hlen:(b0::b1::Blk.row 9 (strsA ks).flatten::L).length=3+L.length:=by simp only[Zf];omega
  dsimp only;rw[hlen];refine⟨by simp[A.loc,A.locL];omega,fun b hb=>?_⟩;rcases ZN.1 hb with rfl|hb
  ·exact .inl l0
  rcases ZN.1 hb with rfl|hb
  ·exact .inl l1
  rcases ZN.1 hb with rfl|hb
  ·exact .inl (Blk.loc0 _ (.row _ _) (ajs (ax2 ks).2.1)).1
  ·exact(hL b hb).imp (fun h=>(Blk.loc0 _ b h).1) id
 ·rintro v h' ⟨v0,⟨bb,tt⟩,⟨b0,b1,L,q,e,rfl,hq,hL,l0,l1⟩,rfl,rfl⟩;injection e with e1 e2;subst e1;have er:(Blk.row 9 (strsA ks).flatten).ren (fun i=>h.b.length+i)=.row 9 (strsA ks).flatten:=(Blk.loc0 0 (.row _ _) (ajs (ax2 ks).2.1)).2 _;simp only[ZQ,hL.ren,er];refine⟨_,h.b.length+(3+q),h.b.length+2,rfl,by simp[A.ren,A.renL],?_,?_,by omega,by omega⟩
  ·rw[List.getElem?_append_right (by omega),show h.b.length+(3+q)-h.b.length=q+1+1+1 by omega];exact hq
  ·rw[List.getElem?_append_right (by omega),show h.b.length+2-h.b.length=2 by omega];rfl
end AX
end
section
open Go.RowKit
open Go.Op (bytesLess)
namespace AX
theorem cvm(a:List UInt8)(h:Hp):AT 89 [.str a] h (.bool false):=by
 have e:(a !=a)=false:=by simp
 refine pcall ?_ rfl rfl h;refine aza mixedT cvo (by simp[ayt]) ?_;dsimp only[ayt];refine azn e ti ?_;exact Fn rfl
theorem czr(a b:List UInt8)(h:Hp):AT 56 [.str a,.str b] h (.bool (bytesLess a b)):=by
 have c:=cvm;refine pcall ?_ rfl rfl h;refine aza mixedT bws (by simp[akw]) ?_;dsimp only[akw];refine azn ti (ai c ti) ?_;exact Fn rfl
section
variable {h:Hp}
theorem cyf{k:Nat}{ks:List (List UInt8)}(hk:h.b[k]?=some (.row 9 (strsA ks).flatten))(key:List UInt8)(hl:∀s∈ks,bytesLess s key=true)(hn:ks.length<=1000000):
  AT 37 [.bs k 1 ks.length,.str key] h (.tup [.int .i64 (ks.length:Nat),.bool false]):=by
 have cl:=fun a=>czr a key
 have hrow:=(ax2 ks).2.2;have hlen:=bqt ks;obtain⟨F,hF⟩:=Ex ((strsA ks).flatten);rw[hF]at hrow hlen hk;clear hF;refine aza mixedT cza (by simp[ak6]) ?_;dsimp only[ak6];refine azn ti ti ?_
 refine azh (fun m ts hh=>∃i:Nat,m=ks.length-i/\i<=ks.length/\hh=h /\
  (ts 0=.bs k 1 ks.length/\ts 1=.str key/\ts 6=.int .i64 (ks.length:Nat)/\ts 7=.int .i64 (i:Nat)/\ts 8=.int .i64 (ks.length:Nat))) ks.length ?_ ?_
 ·exact⟨0,rfl,ZV _,rfl,by(exact aqg ti)⟩
 rintro m ts hh ⟨i,rfl,hil,rfl,ht⟩;rcases YH i ks.length with hlt|hge
 ·have hf:(i:Int)<(ks.length:Int):=by omega
  obtain⟨e1,e2,e3,e4,e5⟩:=bqi hlt (Ze _) hn;obtain⟨q,hq⟩:=Ex ((i+ks.length)/2);have hk1:i<=q/\q<ks.length:=by omega
  rw[hq]at e3 e4 e5;have hki:(q:Int)<(ks.length:Int):=by omega
  have g1:q+1<=F.length:=by omega
  have g2:=hrow q hk1.2;have hle:=hl _ (ZB hk1.2);obtain⟨x,hx⟩:=Ex (ks[q]);rw[hx]at g2 hle;have cx:=cl x;rw[hle]at cx;clear hx hrow hl cl;refine azn (ai ht (ai hf (ai e1 (ai e2 (ai e3 (ai e4 (ai e5 (ai g1 (ai g2 (ai hk (ai hki Nat.mul_one))))))))))) (ai cx ti) ?_;exact⟨_,by omega,q+1,rfl,by omega,rfl,by(exact aqg (ai ht e5))⟩
 ·have hf:¬(i:Int)<(ks.length:Int):=by omega
  obtain rfl:i=ks.length:=by omega
  refine azn (ai ht hf) ti ?_;exact⟨_,le_refl _,rfl,rfl⟩
theorem cx6(key:List UInt8):AT 37 [.sl 0 .nil [],.str key] h (.tup [.int .i64 (0:Nat),.bool false]):=by
 have e0:¬(0:Int)<((0:Nat):Int):=by decide
 refine aza mixedT cza (by simp[ak6]) ?_;dsimp only[ak6];refine azn ti ti ?_;refine ajc ?_;refine azn e0 ti ?_;exact⟨_,le_refl _,rfl,rfl⟩
theorem cqv{k n:Nat}{F:List A}(hk:h.b[k]?=some (.row 9 F))(hF:F.length=n)(hn:n<=1000000)(key:List UInt8):
  AC 38 [.bs k 1 n,.int .i64 (n:Nat),.sl 1 .no [[.str key]]] h fun v h'=>v=.bs h.b.length 1 (n+1)/\h'=⟨h.b.set k .gone++[.row 9 (F++[.str key])],h.t⟩:=by
 have hX:appB h 9 1 16 (.bs k 1 n) (.sl 1 .no [[.str key]])=some (.bs h.b.length 1 (n+1),⟨h.b.set k .gone++[.row 9 (F++[.str key])],h.t⟩):=by
  simp only[appB,rowC,if_true,Zf,Zo,ZP,List.flatten_nil,Zx,hk];rw[if_pos (by omega),if_pos ⟨trivial,by unfold maxLen;omega,by omega⟩,if_pos ⟨trivial,by omega⟩,Zz (by omega)]
 have e1:(((1:Nat):Int)==0)=false:=rfl;have e2:((n:Int)==(n:Int))=true:=by simp
 have hS:sslA 1 (some (.int .i64 (n:Int))) none (.bs k 1 n)=some (.sl 1 .no []):=by simp[sslA]
 refine aza mixedT bvo (by simp[ajo]) ?_;dsimp only[ajo];refine azn (ai e1 (ai e2 (ai hS hX))) ti ?_;exact⟨_,le_refl _,rfl,rfl⟩
theorem by0(key:List UInt8):
  AC 38 [.sl 0 .nil [],.int .i64 (0:Nat),.sl 1 .no [[.str key]]] h fun v h'=>v=.bs h.b.length 1 1/\h'=⟨h.b++[.row 9 [.str key]],h.t⟩:=by
 have hX:appB h 9 1 16 (.sl 0 .nil []) (.sl 1 .no [[.str key]])=some (.bs h.b.length 1 1,⟨h.b++[.row 9 [.str key]],h.t⟩):=by
  simp only[appB,rowC,if_true,Zf,Zo,ZP,List.flatten_nil,Zx];rw[if_pos (by omega),if_pos ⟨by unfold maxLen;omega,by omega⟩]
 have e1:(((1:Nat):Int)==0)=false:=rfl;have e2:(((0:Nat):Int)==((0:Nat):Int))=true:=rfl;have hS:sslA 1 (some (.int .i64 ((0:Nat):Int))) none (.sl 0 .nil [])=some (.sl 1 .no []):=by simp[sslA]
 refine aza mixedT bvo (by simp[ajo]) ?_;dsimp only[ajo];refine azn (ai e1 (ai e2 (ai hS hX))) ti ?_;exact⟨_,le_refl _,rfl,rfl⟩
theorem cj7{k n W0:Nat}{F x:List A}{o:Own}(hk:h.b[k]?=some (.row 32 F))(hF:F.length=n*5)(hn:n<=1000000):
  AC 39 [.bs k 5 n,.int .i64 (n:Nat),.sl 5 o [x]] h fun v h'=>v=.bs h.b.length 5 (n+1)/\h'=⟨h.b.set k .gone++[.row 32 (F++x)],h.t⟩:=by
 have hX:appB h 32 5 80 (.bs k 5 n) (.sl 5 o [x])=some (.bs h.b.length 5 (n+1),⟨h.b.set k .gone++[.row 32 (F++x)],h.t⟩):=by
  simp only[appB,rowC,if_true,Zf,Zo,ZP,List.flatten_nil,Zx,hk];rw[if_pos (by omega),if_pos ⟨trivial,by unfold maxLen;omega,by omega⟩,if_pos ⟨trivial,by omega⟩,Zz (by omega)]
 have e1:(((1:Nat):Int)==0)=false:=rfl;have e2:((n:Int)==(n:Int))=true:=by simp
 have hS:sslA 5 (some (.int .i64 (n:Int))) none (.bs k 5 n)=some (.sl 5 .no []):=by simp[sslA]
 refine aza mixedT bv1 (by simp[ajj]) ?_;dsimp only[ajj];refine azn (ai e1 (ai e2 (ai hS hX))) ti ?_;exact⟨_,le_refl _,rfl,rfl⟩
theorem byv{x:List A}{o:Own}:
  AC 39 [.sl 0 .nil [],.int .i64 (0:Nat),.sl 5 o [x]] h fun v h'=>v=.bs h.b.length 5 1/\h'=⟨h.b++[.row 32 x],h.t⟩:=by
 have hX:appB h 32 5 80 (.sl 0 .nil []) (.sl 5 o [x])=some (.bs h.b.length 5 1,⟨h.b++[.row 32 x],h.t⟩):=by
  simp only[appB,rowC,if_true,Zf,Zo,ZP,List.flatten_nil,Zx];rw[if_pos (by omega),if_pos ⟨by unfold maxLen;omega,by omega⟩]
 have e1:(((1:Nat):Int)==0)=false:=rfl;have e2:(((0:Nat):Int)==((0:Nat):Int))=true:=rfl;have hS:sslA 5 (some (.int .i64 ((0:Nat):Int))) none (.sl 0 .nil [])=some (.sl 5 .no []):=by simp[sslA]
 refine aza mixedT bv1 (by simp[ajj]) ?_;dsimp only[ajj];refine azn (ai e1 (ai e2 (ai hS hX))) ti ?_;exact⟨_,le_refl _,rfl,rfl⟩
end
end AX
end
section
open Go.RowKit
open Go.Op (bytesLess)
namespace AX
theorem bkn(h:Hp):AT 36 [.agg [.int .i64 5,.int .i64 0,.str [],.sl 0 .nil [],.sl 0 .nil []]] h (.agg [.int .i64 5,.int .i64 0,.str [],.sl 0 .nil [],.sl 0 .nil []]):=by
 have ck:=fun h=>a_clone_strs_nil 0 h
 have cp:∀h,AT 55 [.sl 0 .nil []] h (.sl 0 .nil []):=fun h=>by
  refine pcall ?_ rfl rfl h;refine aza mixedT ak1 (by simp[aqo]) ?_;dsimp only[aqo];have z0:(((0:Nat):Int)==0)=true:=rfl;refine azn z0 ti ?_;exact Fn rfl
 refine pcall ?_ rfl rfl h;refine aza mixedT aka (by simp[aqt]) ?_;dsimp only[aqt];refine azn ti (ai ck (ai cp ti)) ?_;exact Fn rfl
theorem cwa(key:List UInt8)(x:V)(hx:x.few)(h:Hp):
  AT 19 [.agg [.int .i64 5,.int .i64 0,.str [],.sl 0 .nil [],.sl 0 .nil []],.str key,x.A] h ((V.mk 5 0 [] [x] [key]).A):=by
 have c1:=bkn;have c2:=fun h=>@cx6 h key
 have c3:=fun h=>@by0 h key
 have c4:=fun h=>@byv h [.int .i64 0,.int .i64 0,.str [],.sl 0 .nil [],.sl 0 .nil []] (.tok 0)
 have c5:=akm x hx;have hVA:(V.mk 5 0 [] [x] [key]).A=.agg [.int .i64 5,.int .i64 0,.str [],.sl 5 .no [x.cells],.sl 1 .no [[.str key]]]:=by simp only[V.A,V.cells,V.cellss,strsA,ZQ,Yk]
 rw[hVA];clear hVA hx;obtain⟨k,n,s,is,ks⟩:=x;simp only[V.A,V.cells]at c5⊢;refine pcallv ?_ (by simp[A.pure,A.data]) h;refine aza mixedT cvt (by simp[bq4]) ?_;dsimp only[bq4];have z1:¬(0:Int)>((0:Nat):Int):=by decide
 have z2:¬((0:Nat):Int)>((0:Nat):Int):=by decide
 have z3:(((0:Nat):Int)==((0:Nat):Int))=true:=rfl;have z4:((0:Nat):Int)<((1:Nat):Int):=by decide
 have z5:0*5+5<=5:=by decide
 refine azn (ai z1 (ai z2 z3)) (ai c1 (ai c2 (ai c3 (ai c4 ti)))) ?_;refine azn (ai z1 (ai z2 (ai z3 (ai z4 z5)))) (ai c5 ti) ?_;exact⟨_,le_refl _,.agg ⟨.inl ⟨rfl,rfl⟩,.inl ⟨rfl,rfl⟩,.inl ⟨rfl,rfl⟩,.inr ⟨_,5,_,[[.int .i64 k,.int .i64 n,.str s,.sl 5 .no (V.cellss is),.sl 1 .no (strsA ks)]],rfl,rfl,rfl,fun r hr=>by rw[ZC.1 hr];rfl,rfl⟩,.inr ⟨_,1,_,[[.str key]],rfl,rfl,rfl,fun r hr=>by rw[ZC.1 hr];rfl,rfl⟩,trivial⟩⟩
theorem avp:∀(xs F z:List A),z.length=xs.length->setCells (F++z) F.length xs=F++xs
 |[],F,z,h=>by
  have:z=[]:=YK.1 h;subst this;rfl
 |x::xs,F,[],h=>by cases h
 |x::xs,F,y::z,h=>by
  unfold setCells;have e1:(F++y::z).set F.length x=(F++[x])++z:=by rw[List.set_append_right _ _ (Ze _),Nat.sub_self];simp
  rw[e1,show F.length+1=(F++[x]).length by simp,avp xs (F++[x]) z (by simpa using h)];simp
theorem cyh(is:List V)(ks:List (List UInt8))(key:List UInt8)(x:V)(hi:is≠[])(hik:is.length=ks.length)(hf:(V.mk 5 0 [] is ks).few)(hx:x.few)(hl:∀s∈ks,bytesLess s key=true)(hn:ks.length<=100000)(h:Hp):
  AT 19 [(V.mk 5 0 [] is ks).A,.str key,x.A] h ((V.mk 5 0 [] (is++[x]) (ks++[key])).A):=by
 have hk:ks≠[]:=fun e=>hi (YK.1 (by rw[hik,e];rfl))
 have c1:=bk6 5 0 [] is ks hi hk hf;have c5:=akm x hx;have hVA:(V.mk 5 0 [] is ks).A=.agg [.int .i64 5,.int .i64 0,.str [],.sl 5 .no (V.cellss is),.sl 1 .no (strsA ks)]:=by simp only[V.A,V.cells]
 have hVB:(V.mk 5 0 [] (is++[x]) (ks++[key])).A=.agg [.int .i64 5,.int .i64 0,.str [],.sl 5 .no (V.cellss is++[x.cells]),.sl 1 .no (strsA ks++[[.str key]])]:=by simp only[V.A,V.cells,V.cellss_map,strsA,YV,ZQ,Yk]
 rw[hVA]at c1⊢;rw[hVB];rw[hik]at c1;clear hVA hVB hx hf;have hxl:=V.cells_len5 x;have hxd:=V.cellsD x;have hVx:x.A=.agg x.cells:=V_A x;obtain⟨N,hN⟩:=Ex (ks.length);have FK1:=bqt ks;have FI1:=aq7 (aq0 is).1;rw[V.cellss_length,hik]at FI1;rw[hN]at c1 hn FK1 FI1;have hN0:0<N:=by rw[<-hN];exact Yp.2 hk
 obtain⟨k,n,s,xs,xk⟩:=x;simp only[V.A,V.cells]at c5 hxl hxd⊢;refine pcallv ?_ (by simp[A.pure,A.data]) h;refine aza mixedT cvt (by simp[bq4]) ?_;dsimp only[bq4];refine go0 ti ?_;refine gc0 ti ?_;refine(c1 _).mono ?_;rintro v h' ⟨L,i,j,rfl,rfl,hgi,hgj,hi3,hj3⟩;simp only[ZK,ZA,Zf,Zo]at hgi hgj hi3 hj3⊢;obtain⟨FI,hFI⟩:=Ex ((V.cellss is).flatten);obtain⟨FK,hFK⟩:=Ex ((strsA ks).flatten);rw[hFI]at hgi FI1;have hij:i≠j:=fun e=>by rw[e,hgj]at hgi;injection hgi with e1;injection e1 with e1 _;exact absurd e1 (by decide)
 have c2:=fun h (hk:h.b[j]?=_)=>cyf (h:=h) (k:=j) (ks:=ks) hk key hl (by omega)
 rw[hN]at c2;rw[hFK]at hgj FK1 c2;obtain⟨B,hB⟩:∃B:List Blk,(.cells 32 [.int .i64 5,.int .i64 0,.str [],.sl 5 .no (V.cellss is),.sl 1 .no (strsA ks)] :: .cells 32 [.int .i64 k,.int .i64 n,.str s,.sl 5 .no (V.cellss xs),.sl 1 .no (strsA xk)] :: .cells 32 [.int .i64 0,.int .i64 0,.str [],.sl 0 .nil [],.sl 0 .nil []]::L:List Blk)=B:=⟨_,rfl⟩;have hB1:B[1]?=some (.cells 32 [.int .i64 k,.int .i64 n,.str s,.sl 5 .no (V.cellss xs),.sl 1 .no (strsA xk)]):=by rw[<-hB];rfl
 have hB2:B[2]?=some (.cells 32 [.int .i64 0,.int .i64 0,.str [],.sl 0 .nil [],.sl 0 .nil []]):=by rw[<-hB];rfl
 rw[hB]at hgi hgj⊢;clear hB c1;have hin:=(Zc.1 hgi).1;have hjn:=(Zc.1 hgj).1;obtain⟨n0,hn0⟩:=Ex (B.length);rw[hn0]at hin hjn;have hs1:setCells (FI++[.int .i64 0,.int .i64 0,.str [],.sl 0 .nil [],.sl 0 .nil []]) (N*5) [.int .i64 k,.int .i64 n,.str s,.sl 5 .no (V.cellss xs),.sl 1 .no (strsA xk)]=FI++[.int .i64 k,.int .i64 n,.str s,.sl 5 .no (V.cellss xs),.sl 1 .no (strsA xk)]:=by rw[<-FI1];exact avp _ _ _ rfl
 simp only[setCells]at hs1;have hle:N*5+5<=(FI++[A.int .i64 0,.int .i64 0,.str [],.sl 0 .nil [],.sl 0 .nil []]).length:=by rw[Za,FI1];exact Ze _
 have z1:¬(N:Int)>(N:Int):=by omega
 have z2:((N:Int)==(N:Int))=true:=by simp
 have z3:(0:Int)<=(N:Int)/\(N:Int)<((N+1:Nat):Int):=by omega
 obtain⟨B',hB'⟩:=Ex (B++[.cells 32 [.int .i64 5,.int .i64 0,.str [],.bs i 5 N,.bs j 1 N]]);have f0:(B++[Blk.cells 32 [.int .i64 0,.int .i64 0,.str [],.sl 0 .nil [],.sl 0 .nil []]])[n0]?=some (.cells 32 [.int .i64 0,.int .i64 0,.str [],.sl 0 .nil [],.sl 0 .nil []]):=az5 hn0.symm;have f1:(B++[Blk.cells 32 [.int .i64 0,.int .i64 0,.str [],.sl 0 .nil [],.sl 0 .nil []]]).set n0 (.cells 32 [.int .i64 5,.int .i64 0,.str [],.bs i 5 N,.bs j 1 N])=B':=by
  rw[<-hB',<-hn0,List.set_append_right _ _ (Ze _),Nat.sub_self];rfl
 have p1:B'[j]?=some (.row 9 FK):=by rw[<-hB'];exact azc hgj _
 have p2:B'[n0]?=some (.cells 32 [.int .i64 5,.int .i64 0,.str [],.bs i 5 N,.bs j 1 N]):=by rw[<-hB'];exact az5 hn0.symm
 have p3:B'[i]?=some (.row 32 FI):=by rw[<-hB'];exact azc hgi _
 have p4:B'[1]?=some (.cells 32 [.int .i64 k,.int .i64 n,.str s,.sl 5 .no (V.cellss xs),.sl 1 .no (strsA xk)]):=by rw[<-hB'];exact azc hB1 _
 have p5:B'[2]?=some (.cells 32 [.int .i64 0,.int .i64 0,.str [],.sl 0 .nil [],.sl 0 .nil []]):=by rw[<-hB'];exact azc hB2 _
 have p6:B'.length=n0+1:=by rw[<-hB',Za,hn0];rfl
 have c2':=c2 ⟨B',[]⟩ p1;have c3:=fun t=>cqv (h:=⟨B',t⟩) p1 FK1 (by omega) key
 obtain⟨B2,hB2'⟩:=Ex (B'.set j .gone++[.row 9 (FK++[.str key])]);simp only[hB2',p6]at c3;have q2:B2[n0]?=some (.cells 32 [.int .i64 5,.int .i64 0,.str [],.bs i 5 N,.bs j 1 N]):=by rw[<-hB2'];exact azc ((azq (by omega)).trans p2) _
 have q3:B2[i]?=some (.row 32 FI):=by rw[<-hB2'];exact azc ((azq (Ne.symm hij)).trans p3) _
 have q4:B2[1]?=some (.cells 32 [.int .i64 k,.int .i64 n,.str s,.sl 5 .no (V.cellss xs),.sl 1 .no (strsA xk)]):=by rw[<-hB2'];exact azc ((azq (by omega)).trans p4) _
 have q5:B2[2]?=some (.cells 32 [.int .i64 0,.int .i64 0,.str [],.sl 0 .nil [],.sl 0 .nil []]):=by rw[<-hB2'];exact azc ((azq (by omega)).trans p5) _
 have q6:B2.length=n0+2:=by rw[<-hB2',Za,Zv,p6];rfl
 have q7:B2[n0+1]?=some (.row 9 (FK++[.str key])):=by rw[<-hB2'];exact az5 (by rw[Zv,p6])
 obtain⟨B3,hB3⟩:=Ex (B2.set n0 (.cells 32 [.int .i64 5,.int .i64 0,.str [],.bs i 5 N,.bs (n0+1) 1 (N+1)]));have r2:B3[n0]?=some (.cells 32 [.int .i64 5,.int .i64 0,.str [],.bs i 5 N,.bs (n0+1) 1 (N+1)]):=by rw[<-hB3];exact axi q2
 have r3:B3[i]?=some (.row 32 FI):=by rw[<-hB3];exact(azq (by omega)).trans q3
 have r4:B3[1]?=some (.cells 32 [.int .i64 k,.int .i64 n,.str s,.sl 5 .no (V.cellss xs),.sl 1 .no (strsA xk)]):=by rw[<-hB3];exact(azq (by omega)).trans q4
 have r5:B3[2]?=some (.cells 32 [.int .i64 0,.int .i64 0,.str [],.sl 0 .nil [],.sl 0 .nil []]):=by rw[<-hB3];exact(azq (by omega)).trans q5
 have r6:B3.length=n0+2:=by rw[<-hB3,Zv,q6]
 have r7:B3[n0+1]?=some (.row 9 (FK++[.str key])):=by rw[<-hB3];exact(azq (by omega)).trans q7
 have c4:=fun t o=>cj7 (h:=⟨B3,t⟩) (o:=o) (W0:=0) (x:=[.int .i64 0,.int .i64 0,.str [],.sl 0 .nil [],.sl 0 .nil []]) r3 FI1 (by omega)
 obtain⟨B4,hB4⟩:=Ex (B3.set i .gone++[.row 32 (FI++[.int .i64 0,.int .i64 0,.str [],.sl 0 .nil [],.sl 0 .nil []])]);simp only[hB4,r6]at c4;have s2:B4[n0]?=some (.cells 32 [.int .i64 5,.int .i64 0,.str [],.bs i 5 N,.bs (n0+1) 1 (N+1)]):=by rw[<-hB4];exact azc ((azq (by omega)).trans r2) _
 have s4:B4[1]?=some (.cells 32 [.int .i64 k,.int .i64 n,.str s,.sl 5 .no (V.cellss xs),.sl 1 .no (strsA xk)]):=by rw[<-hB4];exact azc ((azq (by omega)).trans r4) _
 have s5:B4[2]?=some (.cells 32 [.int .i64 0,.int .i64 0,.str [],.sl 0 .nil [],.sl 0 .nil []]):=by rw[<-hB4];exact azc ((azq (by omega)).trans r5) _
 have s7:B4[n0+1]?=some (.row 9 (FK++[.str key])):=by rw[<-hB4];exact azc ((azq (by omega)).trans r7) _
 have s8:B4[n0+2]?=some (.row 32 (FI++[.int .i64 0,.int .i64 0,.str [],.sl 0 .nil [],.sl 0 .nil []])):=by rw[<-hB4];exact az5 (by rw[Zv,r6])
 obtain⟨B5,hB5⟩:=Ex (B4.set n0 (.cells 32 [.int .i64 5,.int .i64 0,.str [],.bs (n0+2) 5 (N+1),.bs (n0+1) 1 (N+1)]));have t2:B5[n0]?=some (.cells 32 [.int .i64 5,.int .i64 0,.str [],.bs (n0+2) 5 (N+1),.bs (n0+1) 1 (N+1)]):=by rw[<-hB5];exact axi s2
 have t4:B5[1]?=some (.cells 32 [.int .i64 k,.int .i64 n,.str s,.sl 5 .no (V.cellss xs),.sl 1 .no (strsA xk)]):=by rw[<-hB5];exact(azq (by omega)).trans s4
 have t5:B5[2]?=some (.cells 32 [.int .i64 0,.int .i64 0,.str [],.sl 0 .nil [],.sl 0 .nil []]):=by rw[<-hB5];exact(azq (by omega)).trans s5
 have t7:B5[n0+1]?=some (.row 9 (FK++[.str key])):=by rw[<-hB5];exact(azq (by omega)).trans s7
 have t8:B5[n0+2]?=some (.row 32 (FI++[.int .i64 0,.int .i64 0,.str [],.sl 0 .nil [],.sl 0 .nil []])):=by rw[<-hB5];exact(azq (by omega)).trans s8
 obtain⟨B6,hB6⟩:=Ex (B5.set (n0+2) (.row 32 (FI++[.int .i64 k,.int .i64 n,.str s,.sl 5 .no (V.cellss xs),.sl 1 .no (strsA xk)])));have u2:B6[n0]?=some (.cells 32 [.int .i64 5,.int .i64 0,.str [],.bs (n0+2) 5 (N+1),.bs (n0+1) 1 (N+1)]):=by rw[<-hB6];exact(azq (by omega)).trans t2
 have u5:B6[2]?=some (.cells 32 [.int .i64 0,.int .i64 0,.str [],.sl 0 .nil [],.sl 0 .nil []]):=by rw[<-hB6];exact(azq (by omega)).trans t5
 have u7:B6[n0+1]?=some (.row 9 (FK++[.str key])):=by rw[<-hB6];exact(azq (by omega)).trans t7
 have u8:B6[n0+2]?=some (.row 32 (FI++[.int .i64 k,.int .i64 n,.str s,.sl 5 .no (V.cellss xs),.sl 1 .no (strsA xk)])):=by rw[<-hB6];exact axi t8
 obtain⟨B7,hB7⟩:=Ex (B6.set 2 (.cells 32 [.int .i64 5,.int .i64 0,.str [],.bs (n0+2) 5 (N+1),.bs (n0+1) 1 (N+1)]));have v5:B7[2]?=some (.cells 32 [.int .i64 5,.int .i64 0,.str [],.bs (n0+2) 5 (N+1),.bs (n0+1) 1 (N+1)]):=by rw[<-hB7];exact axi u5
 have v7:B7[n0+1]?=some (.row 9 (FK++[.str key])):=by rw[<-hB7];exact(azq (by omega)).trans u7
 have v8:B7[n0+2]?=some (.row 32 (FI++[.int .i64 k,.int .i64 n,.str s,.sl 5 .no (V.cellss xs),.sl 1 .no (strsA xk)])):=by rw[<-hB7];exact(azq (by omega)).trans u8
 clear hgi hgj hB1 hB2 p1 p3 p4 p5 q3 q4 q5 q7 r3 r4 r5 r7 s4 s5 s7 t7 u7 c2 hl;refine go0 (ai hn0 (ai f0 (ai f1 p2))) ?_;refine gc0 (ai hn0 (ai f0 (ai f1 p2))) ?_;refine c2'.mono ?_;rintro v h' ⟨rfl,rfl⟩;refine go0 (ai hB2' (ai hB3 (ai hB4 (ai hB5 (ai hB6 (ai hB7 (ai p2 (ai p6 (ai z1 (ai z2 (ai z3 (ai q2 (ai r2 (ai r6 (ai s2 (ai t2 (ai t4 (ai t5 (ai t8 (ai u2 (ai u5 (ai v5 (ai hle hs1))))))))))))))))))))))) ?_;refine gc0 (ai hB2' (ai hB3 (ai hB4 (ai hB5 (ai hB6 (ai hB7 (ai p2 (ai p6 (ai z1 (ai z2 (ai z3 (ai q2 (ai r2 (ai r6 (ai s2 (ai t2 (ai t4 (ai t5 (ai t8 (ai u2 (ai u5 (ai v5 (ai hle hs1))))))))))))))))))))))) ?_;refine(c3 _).mono ?_;rintro v h' ⟨rfl,rfl⟩;refine go0 (ai hB2' (ai hB3 (ai hB4 (ai hB5 (ai hB6 (ai hB7 (ai p2 (ai p6 (ai z1 (ai z2 (ai z3 (ai q2 (ai r2 (ai r6 (ai s2 (ai t2 (ai t4 (ai t5 (ai t8 (ai u2 (ai u5 (ai v5 (ai hle hs1))))))))))))))))))))))) ?_;refine gc0 (ai hB2' (ai hB3 (ai hB4 (ai hB5 (ai hB6 (ai hB7 (ai p2 (ai p6 (ai z1 (ai z2 (ai z3 (ai q2 (ai r2 (ai r6 (ai s2 (ai t2 (ai t4 (ai t5 (ai t8 (ai u2 (ai u5 (ai v5 (ai hle hs1))))))))))))))))))))))) ?_;refine(c4 _ _).mono ?_;rintro v h' ⟨rfl,rfl⟩;refine go0 (ai hB2' (ai hB3 (ai hB4 (ai hB5 (ai hB6 (ai hB7 (ai p2 (ai p6 (ai z1 (ai z2 (ai z3 (ai q2 (ai r2 (ai r6 (ai s2 (ai t2 (ai t4 (ai t5 (ai t8 (ai u2 (ai u5 (ai v5 (ai hle hs1))))))))))))))))))))))) ?_;refine azn (ai hB2' (ai hB3 (ai hB4 (ai hB5 (ai hB6 (ai hB7 (ai p2 (ai p6 (ai z1 (ai z2 (ai z3 (ai q2 (ai r2 (ai r6 (ai s2 (ai t2 (ai t4 (ai t5 (ai t8 (ai u2 (ai u5 (ai v5 (ai FI1 hs1))))))))))))))))))))))) ti ?_;refine use (c5 _) ?_ (hm:=⟨fun e=>absurd e (by decide),fun _=>cv8 t2⟩);refine azn (ai hB2' (ai hB3 (ai hB4 (ai hB5 (ai hB6 (ai hB7 (ai p2 (ai p6 (ai z1 (ai z2 (ai z3 (ai q2 (ai r2 (ai r6 (ai s2 (ai t2 (ai t4 (ai t5 (ai t8 (ai u2 (ai u5 (ai v5 (ai FI1 hs1))))))))))))))))))))))) ti ?_;refine⟨_,le_refl _,.agg ⟨.inl ⟨rfl,rfl⟩,.inl ⟨rfl,rfl⟩,.inl ⟨rfl,rfl⟩,.inr ⟨n0+2,5,32,V.cellss is++[[.int .i64 k,.int .i64 n,.str s,.sl 5 .no (V.cellss xs),.sl 1 .no (strsA xk)]],?_,?_,rfl,?_,?_⟩,.inr ⟨n0+1,1,9,strsA ks++[[.str key]],?_,?_,rfl,?_,?_⟩,trivial⟩⟩
 ·rw[Za,V.cellss_length,hik,hN];rfl
 ·rw[List.flatten_append,hFI];exact v8
 ·intro r hr;rcases Yd.1 hr with hr|hr
  ·exact(aq0 is).1 r hr
  ·rw[ZC.1 hr];rfl
 ·rw[List.flatten_append,List.all_append,(aq0 is).2];rfl
 ·rw[Za,aze,hN];rfl
 ·rw[List.flatten_append,hFK];exact v7
 ·intro r hr;rcases Yd.1 hr with hr|hr
  ·exact(ax2 ks).1 r hr
  ·rw[ZC.1 hr];rfl
 ·rw[List.flatten_append,List.all_append,(ax2 ks).2.1];rfl
end AX
end
end Go.Proofs.YtnffmgmidghfhaaGreatDoor
