/- Part of what the proof needs. -/
import Derived.Test.YthhpocnmfknalaaGreatDoorMFrWs3U
import Derived.Shelf.RegionOpenPlain
import Derived.Lib.JoinLaws
import Derived.Lib.AppendZeros
import Derived.Laws.Externs
import Derived.Laws.NewBlocks
set_option maxHeartbeats 4000000
set_option maxRecDepth 100000
set_option linter.all false
namespace Go.Proofs.YthhpocnmfknalaaGreatDoor
section
open Go.RowKit Go.Lib
theorem cjj(b n c k vb vo vc:Nat)(cs vs:List Value)(w:World)(hk:k<n)(hnc:n<=c)(hroom:c<n+1)(hbig:(n+1)*24<=140737488355328)
  (hcl:cs.length=n*2) (hvl:vs.length=2) (hbw:b<w.heap.size) (hvw:vb<w.heap.size)
  (hcs:∀j v,cs[j]?=some v->w.cell? ⟨b,j,none⟩=some v) (hvs:∀j v,vs[j]?=some v->w.cell? ⟨vb,vo+j,none⟩=some v) (h1c:∀v∈cs,v.oneCell'=true) (h1v:∀v∈vs,v.oneCell'=true):
  Calls Tryz.prog 31 #[.slice (some ⟨b,0,none⟩) n c,.int .i64 k,.slice (some ⟨vb,vo,none⟩) 1 vc] w fun e w'=>
   ∃(G:Nat) (rest:List Value),e=.returned (.slice (some ⟨w.heap.size,0,none⟩) (n+1) G)/\n+1<=G/\G<=maxLen /\
   w'.heap[w.heap.size]?=some (.cells (cs.take (k*2)++vs++cs.drop (k*2)++rest).toArray 78 (0,0))/\(cs.take (k*2)++vs++cs.drop (k*2)++rest).length=G*2/\Below w.heap.size w w':=by
 obtain⟨i0,hi0,hz0,hzs,hzb⟩:=info_parts (show(Tryz.prog.info? 78).map (fun i=>(i.zero,i.size,i.bytes))=some (some (.agg #[.string ⟨#[]⟩,.pointer none]:Value),2,24) by kernel_rfl);have uS:∀w,Sem.run Tryz.prog (underlying 70) w=.ok (TypeDesc.slice 78) w:=run_underlying Tryz.underlying70;have mixed:Tryz.prog.follows .mixedOrders=true:=by kernel_rfl
 have hz1:¬((1:Int)=0):=by omega
 have hz2:¬((k:Int)=(n:Int)):=by omega
 have hz3:(c:Int)<(n:Int)+(1:Int):=by omega
 have hik:k+(n+1-k)=n+1:=by omega
 have hkk:(n:Int)+1-(k:Int)=((n+1-k:Nat):Int):=by omega
 have hold:(Builtin.firstCells i0.size k (.slice (some ⟨b,0,none⟩) k c)).run Tryz.prog w.drew=.ok (cs.take (k*2)).toArray w.drew:=by
  rw[hzs]
  exact run_firstCells_some w.drew 2 k ⟨b,0,none⟩ k c (cs.take (k*2)) (by rw[Zp];omega) (fun j v hj=>by
   rw[Addr.add_lit,Yl];rw[List.getElem?_take]at hj;split at hj
   ·exact hcs j v hj
   ·cases hj)
 have hrz:∀ty,(Builtin.append_ #[70,3] ty #[.slice (some ⟨b,0,none⟩) k c,.int .i64 ((n:Int)+1-(k:Int))]).run Tryz.prog w =
   .ok (.slice (some ⟨w.heap.size,0,none⟩) (n+1) (grownCap w (n+1) c 78)) (w.drew.alloc (.cells ((cs.take (k*2)).toArray++Builtin.zeroCells ((.agg #[.string ⟨#[]⟩,.pointer none]:Value):Value).cells (n+1-k)++Builtin.zeroCells ((.agg #[.string ⟨#[]⟩,.pointer none]:Value):Value).cells (grownCap w (n+1) c 78-(n+1))) 78)):=fun ty=>by
  have h:=Lib.run_append_grow_zeros w 70 3 ty 78 i0 _ .i64 .i64 Tryz.underlying70 (by kernel_rfl) hi0 hz0 (some ⟨b,0,none⟩) k c (cs.take (k*2)) hold (n+1-k) (by omega) (by omega) (by omega) (by omega) (by rw[hzb];omega) (by rw[hzb,hik];exact growslice_fits hroom hbig);rw[hik]at h;rw[hkk];exact h
 have hGm:=grownCap_le_maxLen w (n+1) c 78 (by unfold maxLen;omega);have hGn:=grownCap_ge w (n+1) c 78;obtain⟨G,hG⟩:∃G,G=grownCap w (n+1) c 78:=⟨_,rfl⟩;rw[<-hG]at hrz hGm hGn;obtain⟨ROW,hROW⟩:∃ROW:Array Value,ROW=(cs.take (k*2)).toArray++Builtin.zeroCells ((.agg #[.string ⟨#[]⟩,.pointer none]:Value):Value).cells (n+1-k)++Builtin.zeroCells ((.agg #[.string ⟨#[]⟩,.pointer none]:Value):Value).cells (G-(n+1)):=⟨_,rfl⟩;rw[<-hROW]at hrz;have hzc:((.agg #[.string ⟨#[]⟩,.pointer none]:Value):Value).cells.size=2:=rfl;have hRl:ROW.size=G*2:=by
  rw[hROW];simp only[Array.size_append,size_zeroCells,hzc,List.size_toArray,Zp,hcl];have:min (k*2) (n*2)=k*2:=by omega
  omega
 have hRt:ROW.toList.take (k*2)=cs.take (k*2):=by
  rw[hROW];simp only[Array.toList_append,Zi];rw[List.take_append_of_le_length (by simp;omega),ZJ (by simp;omega)]
 obtain⟨W1,hW1⟩:∃W1,W1=w.drew.alloc (.cells ROW 78):=⟨_,rfl⟩;rw[<-hW1]at hrz;have hg1:W1.heap[w.heap.size]?=some (.cells ROW 78 (0,0)):=by rw[hW1];exact heap_alloc_new w.drew _
 have hOb:∀j v,w.cell? ⟨b,j,none⟩=some v->W1.cell? ⟨b,j,none⟩=some v:=fun j v h=>by rw[hW1,World.cell?_alloc_past (w:=w.drew) _ b j hbw];exact h
 have hOv:∀j v,w.cell? ⟨vb,j,none⟩=some v->W1.cell? ⟨vb,j,none⟩=some v:=fun j v h=>by rw[hW1,World.cell?_alloc_past (w:=w.drew) _ vb j hvw];exact h
 have hB1:Below w.heap.size w W1:=by rw[hW1];exact((Below.refl w.heap.size w).drew).alloc (Ze _) _
 have hmin1:Nat.min 1 (n+1-k)=1:=by simp only[Nat.min_def];split<;>omega
 have hmin2:Nat.min (n-k) (n+1-(k+1))=n-k:=by simp only[Nat.min_def];split<;>omega
 obtain⟨R1,hR1⟩:∃R1:Array Value,R1=(ROW.toList.take (k*2)++vs++ROW.toList.drop (k*2+vs.length)).toArray:=⟨_,rfl⟩;have hR1l:R1.size=G*2:=by
  rw[hR1];simp only[List.size_toArray,Za,Zp,ZC,ZN];omega
 have hcpA:∀(W:World),W.heap=W1.heap->∀ty dc,(Builtin.copy_ #[70,70] ty #[.slice (some ⟨w.heap.size,k*2,none⟩) (n+1-k) dc,.slice (some ⟨vb,vo,none⟩) 1 vc]).run Tryz.prog W=.ok (goInt 1) (W.setRow w.heap.size R1):=fun W hW ty dc=>by
  have h:=aqq (P:=Tryz.prog) W 70 70 ty 78 i0 w.heap.size (k*2) (n+1-k) dc ⟨vb,vo,none⟩ 1 vc ROW 78 vs Tryz.underlying70 hi0 (by rw[hW];exact hg1) (by rw[hmin1,hzs,hvl])
   (fun j v hj=>by rw[Addr.add_lit,show W.cell? ⟨vb,vo+j,none⟩=W1.cell? ⟨vb,vo+j,none⟩ by simp only[World.cell?,hW]];exact hOv _ v (hvs j v hj)) (by omega) h1v
  rw[hmin1,<-hR1]at h;exact h
 obtain⟨W2,hW2⟩:∃W2,W2=W1.setRow w.heap.size R1:=⟨_,rfl⟩;have hg2:W2.heap[w.heap.size]?=some (.cells R1 78 (0,0)):=by rw[hW2];exact setRow_heap W1 _ _ _ _ _ hg1
 have hdl:(cs.drop (k*2)).length=(n-k)*2:=by rw[ZC,hcl];omega
 obtain⟨R2,hR2⟩:∃R2:Array Value,R2=(R1.toList.take ((k+1)*2)++cs.drop (k*2)++R1.toList.drop ((k+1)*2+(cs.drop (k*2)).length)).toArray:=⟨_,rfl⟩;have hcpB:∀(W:World),W.heap=W2.heap->∀ty dc sc,(Builtin.copy_ #[70,70] ty #[.slice (some ⟨w.heap.size,(k+1)*2,none⟩) (n+1-(k+1)) dc,.slice (some ⟨b,k*2,none⟩) (n-k) sc]).run Tryz.prog W=.ok (goInt (n-k:Nat)) (W.setRow w.heap.size R2):=fun W hW ty dc sc=>by
  have h:=aqq (P:=Tryz.prog) W 70 70 ty 78 i0 w.heap.size ((k+1)*2) (n+1-(k+1)) dc ⟨b,k*2,none⟩ (n-k) sc R1 78 (cs.drop (k*2)) Tryz.underlying70 hi0 (by rw[hW];exact hg2) (by rw[hmin2,hzs,hdl])
   (fun j v hj=>by
    rw[Addr.add_lit,show W.cell? ⟨b,k*2+j,none⟩=W1.cell? ⟨b,k*2+j,none⟩ by
     have:W.heap[b]?=W1.heap[b]?:=by rw[hW,hW2];exact setRow_other W1 _ _ _ (by omega)
     simp only[World.cell?,this]]
    exact hOb _ v (hcs _ v (by rwa [List.getElem?_drop]at hj))) (by omega) (fun v hv=>h1c v (List.mem_of_mem_drop hv))
  rw[hmin2,<-hR2]at h;exact h
 have hfin:R2.toList=cs.take (k*2)++vs++cs.drop (k*2)++ROW.toList.drop ((n+1)*2):=by
  have e1:R1.toList.take ((k+1)*2)=cs.take (k*2)++vs:=by
   rw[hR1];simp only[List.toList_toArray];rw[List.take_append_of_le_length (by simp only[Za,Zp,ZN];omega),ZJ (by simp only[Za,Zp,ZN];omega),hRt]
  have e2:R1.toList.drop ((k+1)*2+(cs.drop (k*2)).length)=ROW.toList.drop ((n+1)*2):=by
   rw[hR1,hdl];simp only[List.toList_toArray];rw[List.drop_append,ZP (by simp only[Za,Zp,ZN];omega),Zw,Y5];congr 1;simp only[Za,Zp,ZN];omega
  rw[hR2,List.toList_toArray,e1,e2]
 have hw1 : IntKind.i64.wrap ((k : Int) + 1) = (k : Int) + 1 := by rw [IntKind.wrap_i64]; have : c <= 9000000000000000000 := by omega
                                                                   omega
 have hb1:(0:Int)<=(k:Int)+1:=by omega
 have hin:k<=n:=by omega
 have htn:((k:Int)+1).toNat=k+1:=by omega
 have hb3:(k:Int)<=(n:Int):=by omega
 have hGk:¬(G=k):=by omega
 have hGk1:¬(G=k+1):=by omega
 have hck:¬(c=k):=by omega
 have hK1:=kept hfin;have hK2:=kept hRl;have hK3:=kept hg2;have hK4:=kept hB1;have hK5:=kept hW2;have hK6:=kept hW1;clear hkk hik hold hROW hG hRl hfin hg1 hg2 hR1 hR2 hRt hB1 hOb hOv hcs hvs h1c h1v hR1l hdl;have hE1:((w.alloc (.cells ROW 78)).drew).heap=W1.heap:=by rw[hK6.out];rfl
 have hE1':W1.heap=W1.heap:=rfl;go_enter Tryz.func31,Tryz.ntmps31
 go_wp2_with (first
  |(at_builtin;refine Lib.wpList_append_run _ rfl _ _ _ _ rfl _ _ rfl rfl _ _ (hrz _) ?_)
  |(at_builtin;refine ajf _ rfl _ _ 70 70 rfl _ _ rfl rfl (hcpA _ (by first|rfl|exact hE1) _ _) ?_)
  |(at_builtin;refine ajf _ rfl _ _ 70 70 rfl _ _ rfl rfl (hcpB _ (by first|rfl|exact hE1) _ _ _) ?_))
 have hE2:((w.alloc (.cells ROW 78)).drew.setRow w.heap.size R1).heap=W2.heap:=by rw[hK5.out,hK6.out];rfl
 have hB2:Below w.heap.size w ((w.alloc (.cells ROW 78)).drew.setRow w.heap.size R1).drew:=(bji (((Below.refl w.heap.size w).alloc (Ze _) _).drew) (Ze _) _).drew
 go_region_law_o (refine bzq rfl _ _ 70 70 rfl (.slice (some ⟨w.heap.size,(k+1)*2,none⟩) (n+1-(k+1)) (G-(k+1))) (.slice (some ⟨b,k*2,none⟩) (n-k) (c-k)) (by simp[Act.eval,Act.put]) (by simp[Act.eval,Act.put]) (hcpB _ (by first|exact hE2|rfl) _ _ _) ?_)
 go_wp2
 go_ret
 have hfin:=hK1.out;have hg3:((w.alloc (.cells ROW 78)).drew.setRow w.heap.size R1).drew.heap[w.heap.size]?=some (.cells R1 78 (0,0)):=by
  show((w.alloc (.cells ROW 78)).drew.setRow w.heap.size R1).heap[w.heap.size]?=_
  rw[hE2];exact hK3.out
 refine⟨G,ROW.toList.drop ((n+1)*2),rfl,hGn,hGm,?_,?_,bji hB2 (Ze _) _⟩
 ·rw[setRow_heap _ _ _ _ _ _ hg3,<-hfin,Array.toArray_toList]
 ·have hr:=hK2.out;simp only[Za,Zp,ZC,ZN,hcl,hvl];omega
theorem cze(b n c k vb vo vc:Nat)(cur cs vs:List Value)(curA:Array Value)(tA:TypeId)(fr:Nat×Nat)(w:World)(hk:k<n)(hroom:n+1<=c)(hcm:c<=maxLen)
  (hg:w.heap[b]?=some (.cells cur.toArray 78 (0,0))) (hcap:c*2<=cur.length) (hcs:cs=cur.take (n*2)) (hvl:vs.length=2) (hne:vb≠b) (hA:w.heap[vb]?=some (.cells curA tA fr)) (hA0:curA.size≠0)
  (hvs:∀j v,vs[j]?=some v->w.cell? ⟨vb,vo+j,none⟩=some v) (h1c:∀v∈cs,v.oneCell'=true) (h1v:∀v∈vs,v.oneCell'=true):
  Calls Tryz.prog 31 #[.slice (some ⟨b,0,none⟩) n c,.int .i64 k,.slice (some ⟨vb,vo,none⟩) 1 vc] w fun e w'=>
   ∃rest:List Value,e=.returned (.slice (some ⟨b,0,none⟩) (n+1) c) /\
   w'.heap[b]?=some (.cells (cs.take (k*2)++vs++cs.drop (k*2)++rest).toArray 78 (0,0))/\(cs.take (k*2)++vs++cs.drop (k*2)++rest).length=cur.length/\w.grownBy w' (some b):=by
 obtain⟨i0,hi0,hz0,hzs,hzb⟩:=info_parts (show(Tryz.prog.info? 78).map (fun i=>(i.zero,i.size,i.bytes))=some (some (.agg #[.string ⟨#[]⟩,.pointer none]:Value),2,24) by kernel_rfl);have uS:∀w,Sem.run Tryz.prog (underlying 70) w=.ok (TypeDesc.slice 78) w:=run_underlying Tryz.underlying70;have mixed:Tryz.prog.follows .mixedOrders=true:=by kernel_rfl
 have hz1:¬((1:Int)=0):=by omega
 have hz2:¬((k:Int)=(n:Int)):=by omega
 have hz3:¬((c:Int)<(n:Int)+(1:Int)):=by omega
 have hcl:cs.length=n*2:=by rw[hcs,Zp];omega
 have hcsC:∀j v,cs[j]?=some v->w.cell? ⟨b,j,none⟩=some v:=fun j v hj=>by
  rw[hcs,List.getElem?_take]at hj;split at hj
  ·simp[World.cell?,hg,hj]
  ·cases hj
 have hov:∀lb cb,(callFunc 59 #[.slice (some ⟨vb,vo,none⟩) 1 vc,.slice (some ⟨b,(k+1)*2,none⟩) lb cb]).run Tryz.prog w=.ok (.value (.bool false)) w:=fun lb cb=>by
  rw[run_callFunc_extern Tryz.func59 (by kernel_rfl) (by kernel_rfl) (by kernel_rfl) (e:=Extern.SlicesOverlaps.overlaps #[70,70] #[4]) (by kernel_rfl),
   bxa w 70 4 78 Tryz.underlying70 2 (by intro w;simp[sizeOf,typeInfo,hi0,hzs]) ⟨vb,vo,none⟩ ⟨b,(k+1)*2,none⟩ 1 vc lb cb hne hA hA0 hg]
  rfl
 have hmin1:Nat.min (n+1-k) (n-k)=n-k:=by simp only[Nat.min_def];split<;>omega
 have hmin2:Nat.min 1 (n+1-k)=1:=by simp only[Nat.min_def];split<;>omega
 have hdl:(cs.drop (k*2)).length=(n-k)*2:=by rw[ZC,hcl];omega
 obtain⟨R1,hR1⟩:∃R1:Array Value,R1=(cur.take ((k+1)*2)++cs.drop (k*2)++cur.drop ((k+1)*2+(cs.drop (k*2)).length)).toArray:=⟨_,rfl⟩;have hR1l:R1.size=cur.length:=by rw[hR1];simp only[List.size_toArray,Za,Zp,ZC,hdl];omega
 have hcpA:∀ty dc sc,(Builtin.copy_ #[70,70] ty #[.slice (some ⟨b,(k+1)*2,none⟩) (n-k) dc,.slice (some ⟨b,k*2,none⟩) (n+1-k) sc]).run Tryz.prog w.drew=.ok (goInt (n-k:Nat)) (w.drew.setRow b R1):=fun ty dc sc=>by
  have h:=aqq (P:=Tryz.prog) w.drew 70 70 ty 78 i0 b ((k+1)*2) (n-k) dc ⟨b,k*2,none⟩ (n+1-k) sc cur.toArray 78 (cs.drop (k*2)) Tryz.underlying70 hi0 hg (by rw[hmin1,hzs,hdl])
   (fun j v hj=>by rw[Addr.add_lit];exact hcsC _ v (by rwa [List.getElem?_drop]at hj)) (by simp only[List.size_toArray];omega) (fun v hv=>h1c v (List.mem_of_mem_drop hv))
  rw[hmin1,List.toList_toArray,<-hR1]at h;exact h
 obtain⟨W1,hW1⟩:∃W1,W1=w.drew.setRow b R1:=⟨_,rfl⟩;rw[<-hW1]at hcpA;have hg1:W1.heap[b]?=some (.cells R1 78 (0,0)):=by rw[hW1];exact setRow_heap w.drew _ _ _ _ _ hg
 obtain⟨R2,hR2⟩:∃R2:Array Value,R2=(R1.toList.take (k*2)++vs++R1.toList.drop (k*2+vs.length)).toArray:=⟨_,rfl⟩;have hcpB:∀(W:World),W.heap=W1.heap->∀ty dc,(Builtin.copy_ #[70,70] ty #[.slice (some ⟨b,k*2,none⟩) (n+1-k) dc,.slice (some ⟨vb,vo,none⟩) 1 vc]).run Tryz.prog W=.ok (goInt 1) (W.setRow b R2):=fun W hW ty dc=>by
  have h:=aqq (P:=Tryz.prog) W 70 70 ty 78 i0 b (k*2) (n+1-k) dc ⟨vb,vo,none⟩ 1 vc R1 78 vs Tryz.underlying70 hi0 (by rw[hW];exact hg1) (by rw[hmin2,hzs,hvl])
   (fun j v hj=>by
    rw[Addr.add_lit,show W.cell? ⟨vb,vo+j,none⟩=w.cell? ⟨vb,vo+j,none⟩ by
     have:W.heap[vb]?=w.heap[vb]?:=by rw[hW,hW1];exact setRow_other w.drew _ _ _ hne
     simp only[World.cell?,this]]
    exact hvs j v hj) (by omega) h1v
  rw[hmin2,<-hR2]at h;exact h
 have hfin:R2.toList=cs.take (k*2)++vs++cs.drop (k*2)++cur.drop ((n+1)*2):=by
  have e1:R1.toList.take (k*2)=cs.take (k*2):=by
   rw[hR1,List.toList_toArray,Zi,List.take_append_of_le_length (by rw[Zp];omega),List.take_take,hcs,List.take_take];congr 1;omega
  have e2:R1.toList.drop (k*2+vs.length)=cs.drop (k*2)++cur.drop ((n+1)*2):=by
   have hl:(cur.take ((k+1)*2)).length=k*2+vs.length:=by rw[Zp,hvl];omega
   rw[hR1,List.toList_toArray,Zi,<-hl,List.drop_left,hdl];congr 2;omega
  rw[hR2,List.toList_toArray,e1,e2];simp only[Zi]
 have hw1:IntKind.i64.wrap ((k:Int)+1)=(k:Int)+1:=by rw[IntKind.wrap_i64];unfold maxLen at hcm;omega
 have hw2:IntKind.i64.wrap ((n:Int)+1)=(n:Int)+1:=by rw[IntKind.wrap_i64];unfold maxLen at hcm;omega
 have hb1:(0:Int)<=(k:Int)+1:=by omega
 have hb2:(0:Int)<=(n:Int)+1:=by omega
 have hin:k<=n:=by omega
 have htn:((k:Int)+1).toNat=k+1:=by omega
 have htn2:((n:Int)+1).toNat=n+1:=by omega
 have hb3:(k:Int)<=(n:Int):=by omega
 have hb4:(k:Int)<=(n:Int)+1:=by omega
 have hck:¬(c=k):=by omega
 have hck1:¬(c=k+1):=by omega
 have hK1:=kept hfin;have hK3:=kept hg;have hK5:=kept hW1;have hK6:=kept hR1l;have hK7:=kept hcap;clear hfin hg hg1 hR1 hR2 hcs hvs h1c h1v hR1l hdl hcsC hcap hA;go_enter Tryz.func31,Tryz.ntmps31;go_wp2_with (simp only[hov])
 go_region_law_o (refine bzq rfl _ _ 70 70 rfl _ _ (by simp[Act.eval,Act.put]) (by simp[Act.eval,Act.put]) (hcpA _ _ _) ?_)
 go_wp2_with (at_builtin;refine ajf _ rfl _ _ 70 70 rfl _ _ rfl rfl (hcpB _ rfl _ _) ?_)
 go_ret
 have hfin:=hK1.out;have hg3:W1.heap[b]?=some (.cells R1 78 (0,0)):=by rw[hK5.out];exact setRow_heap w.drew _ _ _ _ _ hK3.out
 have hgr:w.grownBy W1 (some b):=by
  rw[hK5.out];exact⟨rfl,rfl,rfl,by simp,fun j _ hj=>setRow_other w.drew _ j _ fun e=>hj (by rw[e])⟩
 rw[<-hK5.out];refine⟨cur.drop ((n+1)*2),rfl,?_,?_,⟨hgr.os,hgr.tape,hgr.output,by simpa using hgr.size,fun j h1 hj=>(setRow_other W1 _ j _ fun e=>hj (by rw[e])).trans (hgr.block j h1 hj)⟩⟩
 ·rw[setRow_heap _ _ _ _ _ _ hg3,<-hfin,Array.toArray_toList]
 ·have hc:=hK7.out;simp only[Za,Zp,ZC,hcl,hvl];have:=Yp 2 hroom;omega
theorem delW(b n c k:Nat)(cur cs:List Value)(w:World)(hk:k<n)(hnc:n<=c)(hcm:c<=maxLen)
  (hg:w.heap[b]?=some (.cells cur.toArray 78 (0,0))) (hcap:c*2<=cur.length) (hcs:cs=cur.take (n*2)) (h1c:∀v∈cs,v.oneCell'=true):
  Calls Tryz.prog 37 #[.slice (some ⟨b,0,none⟩) n c,.int .i64 k,.int .i64 ((k:Int)+1)] w fun e w'=>
   ∃rest:List Value,e=.returned (.slice (some ⟨b,0,none⟩) (n-1) c) /\
   w'.heap[b]?=some (.cells (cs.take (k*2)++cs.drop ((k+1)*2)++rest).toArray 78 (0,0))/\(cs.take (k*2)++cs.drop ((k+1)*2)++rest).length=cur.length/\w.grownBy w' (some b):=by
 obtain⟨i0,hi0,hz0,hzs,hzb⟩:=info_parts (show(Tryz.prog.info? 78).map (fun i=>(i.zero,i.size,i.bytes))=some (some (.agg #[.string ⟨#[]⟩,.pointer none]:Value),2,24) by kernel_rfl);have mixed:Tryz.prog.follows .mixedOrders=true:=by kernel_rfl
 have uS:∀w,Sem.run Tryz.prog (underlying 70) w=.ok (TypeDesc.slice 78) w:=run_underlying Tryz.underlying70;have hcl:cs.length=n*2:=by rw[hcs,Zp];omega
 have hcsC:∀j v,cs[j]?=some v->w.cell? ⟨b,j,none⟩=some v:=fun j v hj=>by
  rw[hcs,List.getElem?_take]at hj;split at hj
  ·simp[World.cell?,hg,hj]
  ·cases hj
 have hz1:¬((k:Int)=(k:Int)+1):=by omega
 have hdl:(cs.drop ((k+1)*2)).length=(n-(k+1))*2:=by rw[ZC,hcl];omega
 obtain⟨R1,hR1⟩:∃R1:Array Value,R1=(cur.take (k*2)++cs.drop ((k+1)*2)++cur.drop (k*2+(cs.drop ((k+1)*2)).length)).toArray:=⟨_,rfl⟩;have hR1l:R1.size=cur.length:=by rw[hR1];simp only[List.size_toArray,Za,Zp,ZC,hdl];omega
 have hap:∀(W:World),W.heap=w.heap->∀ty (ad:Addr) c2,(n-(k+1)=0\/ad=⟨b,(k+1)*2,none⟩)->(Builtin.append_ #[70,70] ty #[.slice (some ⟨b,0,none⟩) k c,.slice (some ad) (n-(k+1)) c2]).run Tryz.prog W=.ok (.slice (some ⟨b,0,none⟩) (n-1) c) (W.setRow b R1):=fun W hW ty ad c2 had=>by
  have h:=run_append_room (P:=Tryz.prog) W 70 ty 78 i0 Tryz.underlying70 hi0 b k c cur.toArray (by rw[hW];exact hg) ad (n-(k+1)) c2 (cs.drop ((k+1)*2)) (by rw[hzs];exact hdl)
   (fun j u hj=>by
    rcases had with h0|rfl
    ·have:(cs.drop ((k+1)*2)).length=0:=by rw[hdl,h0,Nat.zero_mul]
     rw[ZM this]at hj;simp at hj
    ·rw[Addr.add_lit,show W.cell? ⟨b,(k+1)*2+j,none⟩=w.cell? ⟨b,(k+1)*2+j,none⟩ by simp only[World.cell?,hW]]
     exact hcsC _ u (by rwa [List.getElem?_drop]at hj))
   (fun v hv=>h1c v (List.mem_of_mem_drop hv)) (by omega) (by rw[hzs,hdl];simp only[List.size_toArray];omega)
  rw[hzs,List.toList_toArray,<-hR1,show k+(n-(k+1))=n-1 by omega]at h;exact h
 obtain⟨W1,hW1⟩:∃W1,W1=w.setRow b R1:=⟨_,rfl⟩;have hg1:W1.heap[b]?=some (.cells R1 78 (0,0)):=by rw[hW1];exact setRow_heap w _ _ _ _ _ hg
 have hzv:∀w,(zeroValue 78).run Tryz.prog w=.ok ((.agg #[.string ⟨#[]⟩,.pointer none]:Value)) w:=by intro w;simp[zeroValue,typeInfo,hi0,hz0]
 have hcK:(n-1)*2+1*2<=R1.size:=by
  rw[hR1l];have:=Yp 2 hnc;omega
 obtain⟨Z,hZ⟩:∃Z:List Value,Z=(Builtin.zeroCells ((.agg #[.string ⟨#[]⟩,.pointer none]:Value)).cells 1).toList:=⟨_,rfl⟩;have hZl:Z.length=2:=by rw[hZ];simp[size_zeroCells,Value.cells]
 obtain⟨R2,hR2⟩:∃R2:Array Value,R2=(R1.toList.take ((n-1)*2)++Z++R1.toList.drop ((n-1)*2+Z.length)).toArray:=⟨_,rfl⟩;have hcr:∀(W:World),W.heap=W1.heap->∀ty c2,(Builtin.clear_ #[70] ty #[.slice (some ⟨b,(n-1)*2,none⟩) 1 c2]).run Tryz.prog W=.ok (.tuple #[]) (W.setRow b R2):=fun W hW ty c2=>by
  rw[hR2,hZ];exact ay9 W 70 78 ty ((.agg #[.string ⟨#[]⟩,.pointer none]:Value)) b ((n-1)*2) 1 c2 2 R1 78 Tryz.underlying70 hzv rfl (by decide) (by rw[hW];exact hg1) hcK (by decide)
 have hfin:R2.toList=cs.take (k*2)++cs.drop ((k+1)*2)++(Z++R1.toList.drop ((n-1)*2+Z.length)):=by
  have e1:R1.toList.take ((n-1)*2)=cs.take (k*2)++cs.drop ((k+1)*2):=by
   have h1:cur.take (k*2)=cs.take (k*2):=by rw[hcs,List.take_take];congr 1;omega
   rw[hR1,List.toList_toArray,List.take_append_of_le_length (by rw[Za,Zp,hdl];omega),ZJ (by rw[Za,Zp,hdl];omega),h1]
  rw[hR2,List.toList_toArray,e1,Zi]
 have hw1:IntKind.i64.wrap ((n:Int)-1)=(n:Int)-1:=by rw[IntKind.wrap_i64];unfold maxLen at hcm;omega
 have hb1:(0:Int)<=(k:Int)+1:=by omega
 have hb2:(k:Int)<=(k:Int)+1:=by omega
 have hb3:(k:Int)+1<=(n:Int):=by omega
 have hb4:(k:Int)<=(n:Int):=by omega
 have hb5:(n:Int)<=(c:Int):=by omega
 have htn:((k:Int)+1).toNat=k+1:=by omega
 have hck:¬(c=k):=by omega
 obtain⟨A,hA,had⟩:∃A:Addr,(if c=k+1 then(some ⟨b,0,none⟩:Option Addr)else some ⟨b,(k+1)*2,none⟩)=some A/\(n-(k+1)=0\/A=⟨b,(k+1)*2,none⟩):=by
  by_cases h:c=k+1
  ·exact⟨_,if_pos h,.inl (by omega)⟩
  ·exact⟨_,if_neg h,.inr rfl⟩
 have hcn:¬(c=n-1):=by omega
 have hkc:k<=c:=by omega
 have hn1:n-(n-1)=1:=by omega
 have hn2:((n-1:Nat):Int)<=(n:Int):=by omega
 have hK0:=kept hfin;have hK1:=kept hcK;have hK2:=kept hg;have hK3:=kept hR1;have hK4:=kept hW1;have hK5:=kept hg1;have hK6:=kept hcs;have hK7:=kept hR1l;clear hfin hcK hg hR1 hcs h1c hR1l hdl hcsC hcap hg1 hZ hR2;go_enter Tryz.func37,Tryz.ntmps37;go_wp2_with fail
 go_region_law_o (refine bxw rfl _ _ 70 70 rfl (.slice (some ⟨b,0,none⟩) k c) (.slice (some A) (n-(k+1)) (c-(k+1))) (by simp[Act.eval,Act.put]) (by simp[Act.eval,Act.put]) (hap w.drew rfl _ _ _ had) ?_)
 go_wp2;rw[hcr (w.drew.setRow b R1) (by rw[hK4.out];rfl)];go_wp2
 go_ret
 have hg3:(w.drew.setRow b R1).heap[b]?=some (.cells R1 78 (0,0)):=setRow_heap w.drew _ _ _ _ _ hK2.out;refine⟨Z++R1.toList.drop ((n-1)*2+Z.length),rfl,?_,?_,⟨rfl,rfl,rfl,by simp,fun j _ hj=>(setRow_other _ _ j _ fun e=>hj (by rw[e])).trans (setRow_other w.drew _ j _ fun e=>hj (by rw[e]))⟩⟩
 ·rw[setRow_heap _ _ _ _ _ _ hg3,<-hK0.out,Array.toArray_toList]
 ·have h1:=hK1.out;have h7:=hK7.out;simp only[Za,Zp,ZC,ZN,hcl,hZl];omega
theorem cwr(b n c vb vo vc:Nat)(cur cs vs:List Value)(w:World)(hnc:n<=c)(hcm:c<=maxLen)(hn1:n+1<=maxLen)(hbig:(n+1)*24<=140737488355328)
  (hg:w.heap[b]?=some (.cells cur.toArray 78 (0,0))) (hcap:c*2<=cur.length) (hcs:cs=cur.take (n*2)) (hvl:vs.length=2)
  (hvs:∀j v,vs[j]?=some v->w.cell? ⟨vb,vo+j,none⟩=some v) (h1v:∀v∈vs,v.oneCell'=true):
  Calls Tryz.prog 31 #[.slice (some ⟨b,0,none⟩) n c,.int .i64 n,.slice (some ⟨vb,vo,none⟩) 1 vc] w fun e w'=>
   (∃rest:List Value,n+1<=c/\e=.returned (.slice (some ⟨b,0,none⟩) (n+1) c)/\w'.heap[b]?=some (.cells (cs++vs++rest).toArray 78 (0,0))/\(cs++vs++rest).length=cur.length/\w.grownBy w' (some b)) \/
   ∃(G:Nat) (rest:List Value),e=.returned (.slice (some ⟨w.heap.size,0,none⟩) (n+1) G)/\n+1<=G/\G<=maxLen/\w'.heap[w.heap.size]?=some (.cells (cs++vs++rest).toArray 78 (0,0))/\(cs++vs++rest).length=G*2/\Below w.heap.size w w':=by
 obtain⟨i0,hi0,hz0,hzs,hzb⟩:=info_parts (show(Tryz.prog.info? 78).map (fun i=>(i.zero,i.size,i.bytes))=some (some (.agg #[.string ⟨#[]⟩,.pointer none]:Value),2,24) by kernel_rfl);have uS:∀w,Sem.run Tryz.prog (underlying 70) w=.ok (TypeDesc.slice 78) w:=run_underlying Tryz.underlying70;have mixed:Tryz.prog.follows .mixedOrders=true:=by kernel_rfl
 have hz1:¬((1:Int)=0):=by omega
 have hcl:cs.length=n*2:=by rw[hcs,Zp];have:=Yp 2 hnc;omega
 have hvs':∀j v,vs[j]?=some v->w.cell? ((⟨vb,vo,none⟩:Addr).add j)=some v:=fun j v hj=>by rw[Addr.add_lit];exact hvs j v hj
 by_cases hroom:n+1<=c
 ·have hk:=Yp 2 hroom;have hrun:∀ty,(Builtin.append_ #[70,70] ty #[.slice (some ⟨b,0,none⟩) n c,.slice (some ⟨vb,vo,none⟩) 1 vc]).run Tryz.prog w=.ok (.slice (some ⟨b,0,none⟩) (n+1) c) (w.setRow b (cs++vs++cur.drop (n*2+2)).toArray):=fun ty=>by
   have h:=run_append_room (P:=Tryz.prog) w 70 ty 78 i0 Tryz.underlying70 hi0 b n c cur.toArray hg ⟨vb,vo,none⟩ 1 vc vs (by rw[hzs,hvl]) hvs' h1v hroom (by rw[hzs,hvl];simp only[List.size_toArray];omega);rw[hzs,List.toList_toArray,hvl,<-hcs]at h;exact h
  have hKg:=kept hg;have hKc:=kept hcap;clear hg hvs hvs' h1v hcs hcap;go_enter Tryz.func31,Tryz.ntmps31;go_wp2_with (at_builtin;refine Lib.wpList_append_run _ rfl _ _ _ _ rfl _ _ rfl rfl _ _ (hrun _) ?_);all_goals (go_ret;refine .inl ⟨cur.drop (n*2+2),hroom,rfl,by rw[Zi];exact setRow_heap _ _ _ _ _ _ hKg.out,?_,⟨rfl,rfl,rfl,by simp,fun j _ hj=>setRow_other _ _ j _ fun e=>hj (by rw[e])⟩⟩;have:=hKc.out;simp only[Za,ZC,hcl,hvl];omega)
 ·have hrun:∀ty,(Builtin.append_ #[70,70] ty #[.slice (some ⟨b,0,none⟩) n c,.slice (some ⟨vb,vo,none⟩) 1 vc]).run Tryz.prog w=_:=fun ty=>
   run_append_grow (P:=Tryz.prog) w 70 ty 78 i0 _ Tryz.underlying70 hi0 hz0 ⟨b,0,none⟩ n c cs (by rw[hzs,hcl]) (fun j v hj=>by
    rw[Addr.add_lit,Yl];rw[hcs,List.getElem?_take]at hj;split at hj
    ·simp[World.cell?,hg,hj]
    ·cases hj) ⟨vb,vo,none⟩ 1 vc vs (by rw[hzs,hvl]) hvs' (by omega) (by unfold maxLen at hn1;omega) (by rw[hzb];exact growslice_fits (by omega) hbig)
  have hGm:=grownCap_le_maxLen w (n+1) c 78 hn1;have hGn:=grownCap_ge w (n+1) c 78;obtain⟨G,hG⟩:∃G,G=grownCap w (n+1) c 78:=⟨_,rfl⟩;rw[<-hG]at hrun hGm hGn;obtain⟨X,hX⟩:∃X,X=(Builtin.zeroCells ((.agg #[.string ⟨#[]⟩,.pointer none]:Value)).cells (G-(n+1))).toList:=⟨_,rfl⟩;have hrow:cs.toArray++vs.toArray++Builtin.zeroCells ((.agg #[.string ⟨#[]⟩,.pointer none]:Value)).cells (G-(n+1))=(cs++vs++X).toArray:=by rw[hX];apply Z9.1;simp
  have hXl:X.length=(G-(n+1))*2:=by rw[hX,ZN,size_zeroCells];rfl
  simp only[hrow]at hrun;have hKx:=kept hXl;clear hg hvs hvs' h1v hcs hcap hX hrow hXl hG;go_enter Tryz.func31,Tryz.ntmps31;go_wp2_with (at_builtin;refine Lib.wpList_append_run _ rfl _ _ _ _ rfl _ _ rfl rfl _ _ (hrun _) ?_);all_goals (go_ret;refine .inr ⟨G,X,rfl,hGn,hGm,by rw[Zi];exact heap_alloc_new w.drew _,?_,((Below.refl w.heap.size w).drew).alloc (Ze _) _⟩;rw[Za,Za,hcl,hvl,hKx.out];omega)
theorem cwe(vb vo vc:Nat)(vs:List Value)(w:World)(hvl:vs.length=2)
  (hvs:∀j v,vs[j]?=some v->w.cell? ⟨vb,vo+j,none⟩=some v):
  Calls Tryz.prog 31 #[.slice none 0 0,.int .i64 0,.slice (some ⟨vb,vo,none⟩) 1 vc] w fun e w'=>
   ∃(G:Nat) (rest:List Value),e=.returned (.slice (some ⟨w.heap.size,0,none⟩) 1 G)/\1<=G/\G<=maxLen/\w'.heap[w.heap.size]?=some (.cells (vs++rest).toArray 78 (0,0))/\(vs++rest).length=G*2/\Below w.heap.size w w':=by
 obtain⟨i0,hi0,hz0,hzs,hzb⟩:=info_parts (show(Tryz.prog.info? 78).map (fun i=>(i.zero,i.size,i.bytes))=some (some (.agg #[.string ⟨#[]⟩,.pointer none]:Value),2,24) by kernel_rfl);have uS:∀w,Sem.run Tryz.prog (underlying 70) w=.ok (TypeDesc.slice 78) w:=run_underlying Tryz.underlying70;have mixed:Tryz.prog.follows .mixedOrders=true:=by kernel_rfl
 have hz1:¬((1:Int)=0):=by omega
 have hrun:∀ty,(Builtin.append_ #[70,70] ty #[.slice none 0 0,.slice (some ⟨vb,vo,none⟩) 1 vc]).run Tryz.prog w=_:=fun ty=>
  run_append_nil (P:=Tryz.prog) w 70 ty 78 i0 _ Tryz.underlying70 hi0 hz0 ⟨vb,vo,none⟩ 1 vc vs (by rw[hzs,hvl]) (fun j v hj=>by rw[Addr.add_lit];exact hvs j v hj) (by omega) (by omega) (by rw[hzb];omega)
 have hGm:=grownCap_le_maxLen w 1 0 78 (by unfold maxLen;omega);have hGn:=grownCap_ge w 1 0 78;obtain⟨G,hG⟩:∃G,G=grownCap w 1 0 78:=⟨_,rfl⟩;rw[<-hG]at hrun hGm hGn;obtain⟨X,hX⟩:∃X,X=(Builtin.zeroCells ((.agg #[.string ⟨#[]⟩,.pointer none]:Value)).cells (G-1)).toList:=⟨_,rfl⟩;have hrow:vs.toArray++Builtin.zeroCells ((.agg #[.string ⟨#[]⟩,.pointer none]:Value)).cells (G-1)=(vs++X).toArray:=by rw[hX];apply Z9.1;simp
 have hXl:X.length=(G-1)*2:=by rw[hX,ZN,size_zeroCells];rfl
 simp only[hrow]at hrun;have hKx:=kept hXl;clear hvs hX hrow hXl hG;go_enter Tryz.func31,Tryz.ntmps31;go_wp2_with (at_builtin;refine Lib.wpList_append_run _ rfl _ _ _ _ rfl _ _ rfl rfl _ _ (hrun _) ?_);all_goals (go_ret;refine⟨G,X,rfl,hGn,hGm,heap_alloc_new w.drew _,?_,((Below.refl w.heap.size w).drew).alloc (Ze _) _⟩;rw[Za,hvl,hKx.out];omega)
namespace AX
theorem dx0{Gw:World->Prop}{h:Hp}{i n k:Nat}{l x:List A}{V:A}(hb:h.b[i]?=some (.row 78 l))(hl:l.length=n*2)(hk:k<=n)(hV:rowC h 78 2 V=some (1,x))(hne:∀m,V≠.bs i 2 m)(hn:n+1<=1000000)(h1:l.all A.one=true):
  ACall Tryz.prog Gw 31 [.bs i 2 n,.int .i64 k,V] h fun v h'=>v=.bs h.b.length 2 (n+1)/\h'=⟨h.b.set i .gone++[.row 78 (l.take (k*2)++x++l.drop (k*2))],h.t⟩:=by
 intro C es hI ha;obtain⟨c0,es1,rfl,r0,ha⟩:=repL_cons.1 ha;obtain⟨c1,es2,rfl,r1,ha⟩:=repL_cons.1 ha;obtain⟨c2,es3,rfl,r2,ha⟩:=repL_cons.1 ha;rw[azo]at ha;subst ha;obtain⟨cap,rfl,hcap,hilt,hcm,hkap⟩:=rep_bs.1 r0;rw[rep_int]at r1;subst r1;obtain⟨g,off,capv,vs,rfl,v1,v2,v3,v4⟩:=aw4 hI r2 hV (by decide);obtain⟨cs,rest,q1,q2,q3⟩:=hI.box i _ hb;have hcl:cs.length=n*2:=(azi q2).trans hl;have hap:=czu hI (by decide) r2 hV hb rfl hne;have hcsC:∀j v,cs[j]?=some v->C.w.cell? ⟨C.κ i,j,none⟩=some v:=fun j v hj=>by
  rw[cell_of_row _ _ _ _ _ _ q1];simp only[List.getElem?_toArray];rw[ZB (Zb.1 hj).1];exact hj
 have hvsC:∀j v,vs[j]?=some v->C.w.cell? ⟨g,off+j,none⟩=some v:=fun j v hj=>by
  have:=v4 j v hj
  rwa [Addr.add_lit]at this
 have hvl:vs.length=2:=by rw[v2]
 obtain⟨curA,tA,fr,hA,hA0⟩:=czs (hvsC 0 _ (Zh (by omega)));have h1c:=aqk q2 h1;have htk:cs=(cs++rest).take (n*2):=by rw[List.take_append_of_le_length (by omega),ZJ (by omega)]
 have hL:RepL C (l.take (k*2)++x++l.drop (k*2)) (cs.take (k*2)++vs++cs.drop (k*2)):=azn (azn (az1 _ q2) v1) (aqn _ q2);have hkl:cap*2<=(cs++rest).length:=by rw[q3];exact hkap
 rcases Yd k n with hlt|hge
 ·by_cases hroom:n+1<=cap
  ·refine(cze (C.κ i) n cap k g off capv (cs++rest) cs vs curA tA fr C.w hlt hroom hcm q1 hkl htk hvl hap hA hA0 hvsC h1c v3).mono ?_;rintro e w' ⟨rest',rfl,hh,hlen,hg⟩;obtain⟨C',m1,m2,m3,m4⟩:=bw3 (W:=2) (n':=n+1) (cap:=cap) hI hb hh (hlen.trans q3) hg hL hroom hcm hkap;exact⟨C',_,_,_,rfl,m1,m2,m3,m4,rfl,rfl⟩
  ·refine(cjj (C.κ i) n cap k g off capv cs vs C.w hlt hcap (by omega) (by omega) hcl hvl (ZR.1 q1).1 (ZR.1 hA).1 hcsC hvsC h1c v3).mono ?_;rintro e w' ⟨G,rest',rfl,hG1,hG2,hh,hlen,hg⟩;obtain⟨C',m1,m2,m3,m4⟩:=bwb (W:=2) (n':=n+1) (cap:=G) hI hb hh hlen hg hL hG1 hG2;exact⟨C',_,_,_,rfl,m1,m2,m3,m4,rfl,rfl⟩
 ·obtain rfl:k=n:=by omega
  have e1:l.take (k*2)++x++l.drop (k*2)=l++x:=by rw[ZJ (by omega),ZP (by omega),Zx]
  rw[e1];refine(cwr (C.κ i) k cap g off capv (cs++rest) cs vs C.w hcap hcm (by unfold maxLen;omega) (by omega) q1 hkl htk hvl hvsC v3).mono ?_;rintro e w' (⟨rest',hroom,rfl,hh,hlen,hg⟩|⟨G,rest',rfl,hG1,hG2,hh,hlen,hg⟩)
  ·obtain⟨C',m1,m2,m3,m4⟩:=bw3 (W:=2) (n':=k+1) (cap:=cap) hI hb hh (hlen.trans q3) hg (azn q2 v1) hroom hcm hkap;exact⟨C',_,_,_,rfl,m1,m2,m3,m4,rfl,rfl⟩
  ·obtain⟨C',m1,m2,m3,m4⟩:=bwb (W:=2) (n':=k+1) (cap:=G) hI hb hh hlen hg (azn q2 v1) hG1 hG2;exact⟨C',_,_,_,rfl,m1,m2,m3,m4,rfl,rfl⟩
theorem cja{Gw:World->Prop}{h:Hp}{W0:Nat}{x:List A}{V:A}(hV:rowC h 78 2 V=some (1,x)):
  ACall Tryz.prog Gw 31 [.sl W0 .nil [],.int .i64 0,V] h fun v h'=>v=.bs h.b.length 2 1/\h'=⟨h.b++[.row 78 x],h.t⟩:=by
 intro C es hI ha;obtain⟨c0,es1,rfl,r0,ha⟩:=repL_cons.1 ha;obtain⟨c1,es2,rfl,r1,ha⟩:=repL_cons.1 ha;obtain⟨c2,es3,rfl,r2,ha⟩:=repL_cons.1 ha;rw[azo]at ha;subst ha;obtain⟨ad,cap,rfl,_,_,hn⟩:=rep_sl.1 r0;obtain⟨rfl,rfl,_⟩:=hn;rw[rep_int]at r1;subst r1;obtain⟨g,off,capv,vs,rfl,v1,v2,v3,v4⟩:=aw4 hI r2 hV (by decide);refine(cwe g off capv vs C.w (by rw[v2]) (fun j v hj=>by have:=v4 j v hj;rwa [Addr.add_lit]at this)).mono ?_;rintro e w' ⟨G,rest',rfl,hG1,hG2,hh,hlen,hg⟩;obtain⟨C',m1,m2,m3,m4⟩:=cyv (W:=2) (n':=1) (cap:=G) hI hh hlen hg v1 hG1 hG2;exact⟨C',_,_,_,rfl,m1,m2,m3,m4,rfl,rfl⟩
theorem dx2{Gw:World->Prop}{h:Hp}{i n k:Nat}{l:List A}(hb:h.b[i]?=some (.row 78 l))(hl:l.length=n*2)(hk:k<n)(h1:l.all A.one=true):
  ACall Tryz.prog Gw 37 [.bs i 2 n,.int .i64 k,.int .i64 ((k+1:Nat):Int)] h fun v h'=>v=.bs i 2 (n-1)/\h'=⟨h.b.set i (.row 78 (l.take (k*2)++l.drop ((k+1)*2))),h.t⟩:=by
 intro C es hI ha;obtain⟨c0,es1,rfl,r0,ha⟩:=repL_cons.1 ha;obtain⟨c1,es2,rfl,r1,ha⟩:=repL_cons.1 ha;obtain⟨c2,es3,rfl,r2,ha⟩:=repL_cons.1 ha;rw[azo]at ha;subst ha;obtain⟨cap,rfl,hcap,hilt,hcm,hkap⟩:=rep_bs.1 r0;rw[rep_int]at r1 r2;subst r1;subst r2;obtain⟨cs,rest,q1,q2,q3⟩:=hI.box i _ hb;have hcl:cs.length=n*2:=(azi q2).trans hl;have htk:cs=(cs++rest).take (n*2):=by rw[List.take_append_of_le_length (by omega),ZJ (by omega)]
 have hown:=hI.ok hb rfl;refine(delW (C.κ i) n cap k (cs++rest) cs C.w hk hcap hcm q1 (by rw[q3];exact hkap) htk (aqk q2 h1)).mono ?_;rintro e w' ⟨rest',rfl,hh,hlen,hg⟩;obtain⟨i1,s1⟩:=aqs (w':=w') (b':=.row 78 (l.take (k*2)++l.drop ((k+1)*2))) false hI hb rfl hg.os hg.tape hg.output hg.size (fun g' h1 hne=>hg.block g' h1 fun e=>hne (by injection e with e;rw[e];exact hown))
  (fun hS=>⟨_,rest',hh,azn (az1 _ (RepL.ext hS.ext _ _ q2)) (aqn _ (RepL.ext hS.ext _ _ q2)),by rw[hlen];exact q3⟩)
 exact⟨_,_,.bs i 2 (n-1),_,rfl,rfl,i1,s1,rep_bs.2 ⟨cap,rfl,by omega,hilt,hcm,hkap⟩,rfl,rfl⟩
end AX
end
section
open Go.RowKit
theorem czp(c:UInt8)(h:Adr.wordB c=true):c.toNat<128:=by
 have key:∀n,n<256->Adr.wordB (UInt8.ofNat n)=true->n<128:=by decide +kernel
 have:=key c.toNat (UInt8.toNat_lt c);rw[UInt8.ofNat_toNat]at this;exact this h
theorem ayo:∀s:List UInt8,s.all Adr.wordB=true->Lib.validD s=true
 |[],_=>rfl
 |c::s,h=>by
  rw[ZK,Zf]at h;have hc:=czp c h.1;rw[Str.valid_step (c::s) (by simp)];rcases Str.dec_cases (c::s)with⟨_,e⟩|⟨e,_⟩
  ·have e':Lib.decodeL (c::s)=(c.toNat,1):=e;rw[e',if_neg (by unfold Str.Bad;rintro⟨h1,_⟩;dsimp only at h1;omega)];exact ayo s h.2
  ·have e':128<=c.toNat:=e;omega
theorem az2{s:List UInt8}(h:Adr.ident s=true):s≠[]/\s.length<=64/\Str.valid s=true:=by
 unfold Adr.ident at h;simp only[Zf,Y1,ne_eq,Zv]at h;refine⟨h.1.1.1,h.1.1.2,?_⟩;unfold Str.valid;rw[ayo s h.2,ZW,Zv];have:=h.1.1.2;omega
namespace AX
namespace Sto
theorem new_enc{lin:List UInt8}(h1:lin≠[])(h2:lin.length<=64)(h3:Str.valid lin=true):Sf.checkZ ⟨lin,0,[],[],[]⟩=0/\(Sf.stE 2 ⟨lin,0,[],[],[]⟩).length<=200:=by
 refine⟨?_,?_⟩
 ·unfold Sf.checkZ;have ht:Sf.text lin=true:=by unfold Sf.text;rw[h3,ZW,Y1];exact h1
  rw[show(Sf.St.mk lin 0 [] [] []).lin=lin from rfl,ht,if_neg (by decide),if_neg (by dsimp only;omega),if_neg (by simp),if_neg (by simp[Sf.instsZ]),if_neg (by simp[Sf.pendsZ])];rfl
 ·have n2:=cz7 2;have n0:=cz7 0;have nl:=cz7 (lin.length:Int);unfold Sf.stE Wire.strE;simp only[Za,Zq,Int.natCast_zero,Zae,if_true,Sf.magic,Zg,Int.ofNat_zero]at *;omega
theorem new_ok{key lin:List UInt8}(hk:Seal.check key=0)(h1:lin≠[])(h2:lin.length<=64)(h3:Str.valid lin=true):newE key lin=0:=by
 obtain⟨z,l⟩:=new_enc h1 h2 h3;have ht:txt lin=true:=by unfold txt;rw[h3,ZW,Y1];exact h1
 unfold newE;rw[if_neg (by simp[hk]),if_neg (by rw[ht];decide)];unfold newK Sto.keep;have he:(Sf.encode 2 ⟨lin,0,[],[],[]⟩)=(Crc.app (Sf.stE 2 ⟨lin,0,[],[],[]⟩),0):=by unfold Sf.encode;rw[if_neg (by simp[z]),if_neg (by omega)]
 rw[he,if_neg (by simp)];have e2:(Seal.enc (Sto.new key lin).key (IntKind.u64.wrap (Sf.St.ser ⟨lin,0,[],[],[]⟩)) (Crc.app (Sf.stE 2 ⟨lin,0,[],[],[]⟩))).2=0:=by
  unfold Seal.enc;rw[if_neg (by simp[Sto.new,hk]),if_neg (by unfold Crc.app;rw[Za,Crc.four_length];omega)]
 rw[if_neg (by simp[e2])]
end Sto
theorem ckx{key:List UInt8}(h:Seal.check key=0):key.length<=64:=by
 unfold Seal.check at h;split at h
 ·cases h
 ·split at h
  ·cases h
  ·omega
def newS(key lin:List UInt8):Sto:=(Sto.newK key lin).1
theorem cq0{key lin:List UInt8}(hk:Seal.check key=0)(h1:lin≠[])(h2:lin.length<=64)(h3:Str.valid lin=true)(h:Hp):
  AC 27 [.str key,.str lin] h fun v h'=>v=.tup [.ptr (h.b.length+1) 0,.int .i64 0]/\h'=⟨h.b++[(newS key lin).M,(newS key lin).Bk h.b.length],h.t⟩:=by
 have hkl:=ckx hk;have hE:=(Sto.new_enc h1 h2 h3).2;have c:=djx key lin (by omega) (by omega) (by omega);rw[Sto.new_ok hk h1 h2 h3,if_pos rfl]at c;have ht:Sto.txt lin=true:=by unfold Sto.txt;rw[h3,ZW,Y1];exact h1
 have hH:Sto.newH key lin=[(newS key lin).M,(newS key lin).B]:=by unfold Sto.newH;rw[if_neg (by simp[hk]),if_neg (by rw[ht];decide)];rfl
 rw[hH]at c;have m0:(newS key lin).M.loc 0:=by
  show((strM (newS key lin).es).all fun e=>e.2.loc 0)=true
  rw[ZE];intro e he;obtain⟨x,hx,rfl⟩:=Z4.1 he;rfl
 obtain⟨s,hs⟩:=Ex (newS key lin);rw[hs]at c m0⊢;refine(ACall.fresh c ?_ (by simp[A.pure,A.data]) h).mono ?_
 ·rintro v h' ⟨rfl,rfl⟩;refine⟨by simp[A.loc,A.locL],fun b hb=>?_⟩;rcases ZL.1 hb with rfl|hb
  ·exact .inl (Blk.loc0 _ _ m0).1
  ·rw[Zy.1 hb];refine .inl ?_;show A.locL 2 _=true
   simp[A.locL,A.loc]
 ·rintro v h' ⟨v0,h0,⟨rfl,rfl⟩,rfl,rfl⟩;refine⟨by simp[A.ren,A.renL],?_⟩;show(⟨h.b++[s.M.ren _,s.B.ren _],h.t⟩:Hp)=_
  rw[(Blk.loc0 0 _ m0).2];rfl
section
variable {h:Hp}
def bqp:AX.AFn:=⟨27,aS [aR 4 (.mv (.c (.nilp))),aR 5 (.mv (aI 0))] (.seq (aS [aM 8 0,aR 9 (.call 28 [.t 8]),aR 10 (.un .not (.t 9))] (.cond (.t 10) (aS [aR 4 (.mv (.c (.nilp))),aR 5 (.mv (aI 38))] (.ret)) (.skip))) (aS [aM 12 0,aM 13 1,aR 14 (.call 30 [.t 12,.t 13]),aM 11 14,aE 15 11 0,aE 16 11 1,aM 6 15,aM 7 16] (.seq (aS [aM 17 7,aR 18 (.un .not (.t 17))] (.cond (.t 18) (aS [aR 4 (.mv (.c (.nilp))),aR 5 (.mv (aI 9))] (.ret)) (.skip))) (aS [aM 19 0,aR 20 (.nilck (.t 19)),aF 21 2 20,aL 22 21,aM 23 6,aR 24 (.iaddr 2 (.t 22) (.t 23)),aF 25 1 24,aL 26 25,aM 4 26,aR 5 (.mv (aI 0))] (.ret))))),[.t 4,.t 5]⟩
theorem cvh:AX.compFn Tryz.prog 14=some bqp:=by kernel_rfl
def bq2:AX.AFn:=⟨25,aS [aR 2 (.mv (.c (.sl 0 .nil [])))] (.seq (aS [aM 6 0,aR 7 (.call 28 [.t 6]),aR 8 (.un .not (.t 7))] (.cond (.t 8) (aS [aR 2 (.mv (.c (.sl 0 .nil [])))] (.ret)) (.skip))) (aS [aR 3 (.mv (.c (.sl 0 .nil [])))] (.seq (aS [aM 9 0,aR 10 (.nilck (.t 9)),aF 11 2 10,aL 12 11,aR 13 (.len false (.t 12)),aR 14 (.mv (aI 0))] (.block 0 (.loop (aS [aR 15 (.bin .lss (.t 14) (.t 13))] (.seq (.cond (.t 15) (.skip) (.exit 0)) (.seq (.block 1 (aS [aR 16 (.iaddr 2 (.t 12) (.t 14)),aR 17 (.load true 2 (.t 16)),aR 5 (.alloc 78 [.str [],.nilp]),aU (.store 2 (.t 5) (.t 17))] (.reg false [aM 18 3,aF 19 0 5,aL 20 19,aR 21 (.mks 1 [.t 20]),aR 22 (.app 9 1 16 (.t 18) (.t 21)),aM 3 22]))) (.reg false [aR 23 (.bin .add (.t 14) (aI 1)),aM 14 23]))))))) (aS [aM 24 3,aM 2 24] (.ret))))),[.t 2]⟩
theorem cke:AX.compFn Tryz.prog 13=some bq2:=by kernel_rfl
def ptrW(W:List Ent)(p:Nat):Nat:=(W[p]?.map (·.p)).getD 0
theorem bzn{W:List Ent}{n:List UInt8}{p:Nat}(h:hasW W n p=true):p<W.length:=by
 unfold hasW at h;rcases Yd p W.length with h1|h1
 ·exact h1
 ·rw[Yi h1]at h;cases h
theorem axa{i:Nat}{key:List UInt8}{sp:A}{W:List Ent}(w:WsAt h.b i key sp W)(n:List UInt8)(p:Nat)(hc:CutW W n p):
  AC 14 [.ptr i 0,.str n] h fun v h'=>v=(if hasW W n p=true then .tup [.ptr (ptrW W p) 0,.int .i64 0]else .tup [.nilp,.int .i64 9])/\∃L,h'=⟨h.b++L,h.t⟩:=by
 have cr:=axe w.set;have cf:=awr w n p hc;have hb:=fun L=>azd w.set L
 unfold setC at hb;refine azc mixedT cvh (by simp[bqp]) ?_;dsimp only[bqp];refine go0 ti ?_;refine gc0 ti ?_;refine cr.mono ?_;rintro v h' ⟨rfl,rfl⟩;refine go0 ti ?_;refine gc0 ti ?_;refine cf.mono ?_;rintro v h' ⟨rfl,L,rfl⟩;have hb:=hb L;cases hh:hasW W n p with
 |false=>
  refine go0 ti ?_;exact⟨_,le_refl _,rfl,L,rfl⟩
 |true=>
  have hlt:=bzn hh;have hz:(0:Int)<=(p:Int)/\(p:Int)<(W.length:Int):=by omega
  have hr:=av9 W p hlt;have hp:ptrW W p=W[p].p:=by unfold ptrW;rw[Zh hlt];rfl
  rw[hp];have hs:=w.sp;revert hb;cases hs with
  |nil=>exact absurd hlt (Nat.not_lt_zero _)
  |row hk=>
   intro hb;have hk:=azd hk L;obtain⟨g1,_,g3⟩:=hr;have g1':p*2+1+1<=(rowW W).length:=by omega
   obtain⟨F,hF⟩:=Ex (rowW W);rw[hF]at g1' g3 hk;obtain⟨q,hq⟩:=Ex (W[p].p);rw[hq]at g3⊢;refine go0 (ai hb (ai hk (ai hz (ai g1' g3)))) ?_;exact⟨_,le_refl _,rfl,L,rfl⟩
theorem akt{i:Nat}{key:List UInt8}{sp:A}{W:List Ent}(w:WsAt h.b i key sp W):
  AC 13 [.ptr i 0] h fun v h'=>v=.sl 1 .no (strsA (W.map (·.name)))/\∃L t,h'=⟨h.b++L,t⟩:=by
 have cr:=axe w.set;have hb:=w.set;have hbL:=fun L=>azd w.set L
 have hlen:=w.len;unfold setC at hb hbL;refine azc mixedT cke (by simp[bq2]) ?_;dsimp only[bq2];have hs:=w.sp;revert hb hbL cr;cases hs with
 |nil=>
  intro cr hb hbL;refine azq hb (ai cr ti) ?_;refine aj6 ?_;have z0:¬(0:Int)<((0:Nat):Int):=by decide
  refine azq z0 ti ?_;exact⟨.sl 1 .no [],⟨rfl,.inr rfl,.inl rfl⟩,rfl,[],_,by rw[Zx]⟩
 |@row k _ hk=>
  intro cr hb hbL;have hrow:=av9 W;have hkL:=fun L=>azd hk L
  obtain⟨F,hF⟩:=Ex (rowW W);rw[hF]at hrow hkL;clear hk hF w;obtain⟨b,t0⟩:=h;dsimp only at hb hbL hkL⊢;refine azq hb (ai cr ti) ?_
  refine azg (fun m ts hh=>∃(j:Nat) (L:List Blk) (W1:Nat) (o:Own) (t:List (TypeId×Nat×Nat)),m=W.length-j/\j<=W.length/\hh=⟨b++L,t⟩/\Gs 9 1 0 ⟨[],t⟩ (strsA ((W.take j).map (·.name))) (.sl W1 o (strsA ((W.take j).map (·.name)))) /\
   (ts 3=.sl W1 o (strsA ((W.take j).map (·.name)))/\ts 12=.bs k 2 W.length/\ts 13=.int .i64 (W.length:Nat)/\ts 14=.int .i64 (j:Nat))) W.length ?_ ?_
  ·exact⟨0,[],0,.nil,t0,rfl,ZH _,by rw[Zx],.inl ⟨rfl,rfl⟩,by(exact azy hb)⟩
  clear cr hb;rintro m ts hh ⟨j,L,W1,o,t,rfl,hj,rfl,hg,ht⟩;rcases Yd j W.length with hlt|hge
  ·have hz:(0:Int)<=(j:Int)/\(j:Int)<(W.length:Int):=by omega
   have wj:IntKind.i64.wrap ((j:Int)+1)=((j+1:Nat):Int):=by rw[wrap64 (by omega) (by omega)];omega
   obtain⟨g1,g2,_⟩:=hrow j hlt;have hk2:=hkL L;have hl2:(strsA ((W.take j).map (·.name))).length=j:=by rw[aze,Zj,Zp];omega
   have em:strsA ((W.take j).map (·.name))++[[.str W[j].name]]=strsA ((W.take (j+1)).map (·.name)):=by
    rw[show W.take (j+1)=W.take j++[W[j]]from(List.take_append_getElem hlt).symm,YL];simp[strsA]
   obtain⟨W',o',t',hX,gX,_⟩:=hg.grow 16 [.str W[j].name] (by omega) (by decide);rw[em]at gX;simp only[em]at hX;obtain⟨x,hx⟩:=Ex (W[j]);rw[hx]at g2 hX;clear hx em hrow hkL hbL;obtain⟨N1,hN1⟩:=Ex (strsA ((W.take j).map (·.name)));obtain⟨N2,hN2⟩:=Ex (strsA ((W.take (j+1)).map (·.name)));rw[hN1]at ht hX hg;rw[hN2]at hX gX;obtain⟨B,hB⟩:=Ex (b++L);rw[hB]at hk2⊢;refine azq (ai ht (ai hk2 (ai hz (ai g1 (ai g2 (ai hX wj)))))) ti ?_;exact⟨_,by omega,j+1,L++[.cells 78 [.str x.name,.ptr x.p 0]],W',o',t',rfl,by omega,by rw[<-hB,Zi],by rw[hN2];exact gX,by rw[hN2];(exact azy (ai ht wj))⟩
  ·have hf:¬(j:Int)<(W.length:Int):=by omega
   obtain rfl:j=W.length:=by omega
   rw[Yu]at ht hg;refine azq (ai ht hf) ti ?_;refine⟨.sl 1 .no (strsA (W.map (·.name))),?_,rfl,L,t,rfl⟩;rw[azl];exact Gs.le hg
end
end AX
end
section
open Go.RowKit
namespace AX
theorem azt{b:List Blk}{i j:Nat}{x:Blk}(h:i≠j):(b.set i x)[j]?=b[j]?:=Zas h
theorem ajh{b:List Blk}{i:Nat}{x y:Blk}(h:b[i]?=some y):(b.set i x)[i]?=some x:=YD (Zb.1 h).1
theorem aqa{b:List Blk}{x:Blk}{n:Nat}(h:n=b.length):(b++[x])[n]?=some x:=by rw[h];exact Zl
theorem get_lt{b:List Blk}{i:Nat}{x:Blk}(h:b[i]?=some x):i<b.length:=(Zb.1 h).1
def KeepC(i:Nat)(b b':List Blk):Prop:=∀j T l,j≠i->b[j]?=some (.cells T l)->b'[j]?=some (.cells T l)
theorem axp(V W:List Ent):rowW (V++W)=rowW V++rowW W:=by unfold rowW;rw[YL,List.flatten_append]
theorem avu(W:List Ent)(q:Nat)(h:q<=W.length):(rowW W).take (q*2)=rowW (W.take q)/\(rowW W).drop (q*2)=rowW (W.drop q):=by
 have e:rowW W=rowW (W.take q)++rowW (W.drop q):=by rw[<-axp,Yj]
 have l:(rowW (W.take q)).length=q*2:=by rw[ajo,Zp,Nat.min_eq_left h]
 rw[e,<-l];exact⟨List.take_left' rfl,List.drop_left' rfl⟩
theorem WsAt.row_ne{b:List Blk}{i k:Nat}{key:List UInt8}{sp:A}{W:List Ent}{F:List A}(w:WsAt b i key sp W)(hk:b[k]?=some (.row 78 F)):k≠i/\∀e∈W,e.m≠i/\e.p≠i/\e.m≠k/\e.p≠k:=by
 have hs:=w.set;unfold setC at hs;refine⟨fun e=>(by rw[e,hs]at hk;cases hk),fun e he=>?_⟩;obtain⟨h1,h2⟩:=w.ent e he;unfold Sto.Bk at h2;unfold Sto.M at h1;exact⟨fun e=>(by rw[e,hs]at h1;cases h1),fun e=>(by rw[e,hs]at h2;injection h2 with h2;injection h2 with h2 _;exact absurd h2 (by decide)),fun e=>(by rw[e,hk]at h1;cases h1),fun e=>(by rw[e,hk]at h2;cases h2)⟩
theorem WsAt.set_ne{b:List Blk}{i:Nat}{key:List UInt8}{sp:A}{W:List Ent}(w:WsAt b i key sp W):∀e∈W,e.m≠i/\e.p≠i:=by
 have hs:=w.set;unfold setC at hs;intro e he;obtain⟨h1,h2⟩:=w.ent e he;unfold Sto.Bk at h2;unfold Sto.M at h1;exact⟨fun e=>(by rw[e,hs]at h1;cases h1),fun e=>(by rw[e,hs]at h2;injection h2 with h2;injection h2 with h2 _;exact absurd h2 (by decide))⟩
def insW(W:List Ent)(q:Nat)(e:Ent):List Ent:=W.take q++[e]++W.drop q
theorem axx(W:List Ent)(q:Nat)(e:Ent):(insW W q e).Perm (e::W):=by
 unfold insW;rw[Zi];refine(List.perm_middle (l₁:=W.take q) (a:=e) (l₂:=W.drop q)).trans ?_;rw[Yj]
theorem bk9(W:List Ent)(q:Nat)(e:Ent):(insW W q e).length=W.length+1:=(axx W q e).length_eq
theorem cw8{W:List Ent}{q:Nat}{e:Ent}(hs:SrtW W)(hc:CutW W e.name q)(hh:hasW W e.name q=false):SrtW (insW W q e):=by
 have hs2:SrtW (W.take q++W.drop q):=by rw[Yj];exact hs
 obtain⟨s1,s2,s3⟩:=List.pairwise_append.1 hs2;have l1:∀x∈W.take q,cmpZ x.name e.name<0:=fun x hx=>by
  obtain⟨j,hj,rfl⟩:=List.mem_take_iff_getElem.1 hx;exact hc.lt j (by omega) (by omega)
 have l2:∀x∈W.drop q,cmpZ e.name x.name<0:=fun x hx=>by
  obtain⟨j,hj,rfl⟩:=List.mem_drop_iff_getElem.1 hx;have hj':q+j<W.length:=by omega
  have h0:∀p (hp:q<=p) (hl:p<W.length),¬cmpZ W[p].name e.name<0:=fun p hp hl=>by have:=hc.ge p hl hp;omega
  have hne:¬cmpZ W[q].name e.name=0:=fun e0=>by
   unfold hasW at hh;rw[Zh (by omega)]at hh;simp[e0]at hh
  have hq:cmpZ e.name W[q].name<0:=by
   rcases Sf.cmpZ_tri (h0 q (Ze _) (by omega))with e1|e1
   ·exact absurd ((Sf.cmpZ_eq _ _).2 e1) hne
   ·exact e1
  rcases Nat.eq_zero_or_pos j with rfl|hp
  ·exact hq
  ·exact Sf.cmpZ_trans hq (List.pairwise_iff_getElem.1 hs q (q+j) (by omega) hj' (by omega))
 unfold insW SrtW;rw[Zi,List.pairwise_append];refine⟨s1,List.pairwise_append.2 ⟨List.pairwise_singleton _ _,s2,fun x hx y hy=>by rw[Zy.1 hx];exact l2 y hy⟩,fun x hx y hy=>?_⟩;rcases Yb.1 hy with hy|hy
 ·rw[Zy.1 hy];exact l1 x hx
 ·exact s3 x hx y hy
section
variable {h:Hp}
def crE(W:List Ent)(n:List UInt8)(p:Nat):Int:=if Adr.ident n=false then 7 else if hasW W n p=true then 8 else if 32<=W.length then 14 else 0
theorem ajp{i:Nat}{key:List UInt8}{sp:A}{W:List Ent}(w:WsAt h.b i key sp W)(n:List UInt8)(hn:n.length<=maxLen)(p:Nat)(hc:CutW W n p)(he:crE W n p≠0):
  AC 10 [.ptr i 0,.str n] h fun v h'=>v=.int .i64 (crE W n p)/\∃L,h'=⟨h.b++L,h.t⟩:=by
 have cr:=axe w.set;have ci:=aj3 n hn;have cf:=awr w n p hc;unfold crE at he⊢;refine fo ?_;cases h1:Adr.ident n with
 |false=>
  rw[h1]at ci;rw[if_pos rfl];refine azq ti (ai cr (ai ci ti)) ?_;exact⟨_,le_refl _,rfl,[],by rw[Zx]⟩
 |true=>
 rw[h1]at ci he;rw[if_neg (by decide)]at he⊢;refine go0 ti ?_;refine gc0 ti ?_;refine cr.mono ?_;rintro v h' ⟨rfl,rfl⟩;refine go0 ti ?_;refine gc0 ti ?_;refine(ci _).mono ?_;rintro v h' ⟨rfl,rfl⟩;refine go0 ti ?_;refine gc0 ti ?_;refine cf.mono ?_;rintro v h' ⟨rfl,L,rfl⟩;have hb:=azd w.set L;unfold setC at hb;cases h2:hasW W n p with
 |true=>
  rw[if_pos rfl];refine go0 hb ?_;exact⟨_,le_refl _,rfl,L,rfl⟩
 |false=>
  rw[h2,if_neg (by decide)]at he;rw[if_neg (by decide)];by_cases h3:32<=W.length
  ·rw[if_pos h3];revert hb;have hs:=w.sp;cases hs with
   |nil=>exact absurd h3 (by decide)
   |row hk=>
    intro hb;have h4:(W.length:Int)>=32:=by omega
    refine go0 (ai hb h4) ?_;exact⟨_,le_refl _,rfl,L,rfl⟩
  ·rw[if_neg h3]at he;exact absurd rfl he
end
end AX
end
section
open Go.RowKit
namespace AX
structure Made(b b':List Blk)(i:Nat)(key:List UInt8)(W:List Ent)(n:List UInt8)(q:Nat):Prop where
 at':∃sp p m,WsAt b' i key sp (insW W q ⟨n,newS key n,p,m⟩)
 keep:KeepC i b b'
 len:b.length<=b'.length
theorem dzf{b B1 B4:List Blk}{i k n0:Nat}{key:List UInt8}{sp:A}{W:List Ent}{n:List UInt8}{q:Nat}(w:WsAt b i key sp W)(hl:W.length<32)(hc:CutW W n q)(hh:hasW W n q=false)
  (hn0:b.length<=n0) (hkn:n0<=k)
  (hset:B4[i]?=some (setC key (.bs k 2 (W.length+1)))) (hrow:B4[k]?=some (.row 78 (rowW (insW W q ⟨n,newS key n,n0+1,n0⟩)))) (hm:B4[n0]?=some (newS key n).M) (hp:B4[n0+1]?=some ((newS key n).Bk n0))
  (hold:∀j x,j≠i->(∀F,x≠.row 78 F)->b[j]?=some x->B4[j]?=some x) (hlen:b.length<=B4.length):Made b B4 i key W n q:=by
 have hne:=w.set_ne;refine⟨⟨_,n0+1,n0,⟨hset,?_,fun e he=>?_,?_,?_,cw8 (e:=⟨n,newS key n,n0+1,n0⟩) w.srt hc hh,by rw[bk9];omega⟩⟩,fun j T l hj hb=>hold j _ hj (fun F e=>by cases e) hb,hlen⟩
 ·have:=SpAt.row hrow;rw[bk9]at this;exact this
 ·rcases ZL.1 ((axx W q _).mem_iff.1 he)with rfl|he
  ·exact⟨hm,hp⟩
  ·obtain⟨h1,h2⟩:=w.ent e he;exact⟨hold _ _ (hne e he).1 (fun F e=>by unfold Sto.M at e;cases e) h1,hold _ _ (hne e he).2 (fun F e=>by unfold Sto.Bk at e;cases e) h2⟩
 ·rw[((axx W q ⟨n,newS key n,n0+1,n0⟩).map (·.p)).nodup_iff,ZO,List.nodup_cons];refine⟨fun hm=>?_,w.ps⟩;obtain⟨e,he,hep⟩:=Z4.1 hm;have h1:=get_lt (w.ent e he).2;have hep':e.p=n0+1:=hep;omega
 ·rw[((axx W q ⟨n,newS key n,n0+1,n0⟩).map (·.m)).nodup_iff,ZO,List.nodup_cons];refine⟨fun hm=>?_,w.ms⟩;obtain⟨e,he,hem⟩:=Z4.1 hm;have h1:=get_lt (w.ent e he).1;have hem':e.m=n0:=hem;omega
section
variable {h:Hp}
theorem aqx{i:Nat}{key:List UInt8}{sp:A}{W:List Ent}(w:WsAt h.b i key sp W)(hkey:Seal.check key=0)(n:List UInt8)(q:Nat)(hc:CutW W n q)(he:crE W n q=0):
  AC 10 [.ptr i 0,.str n] h fun v h'=>v=.int .i64 0/\h'.t=h.t/\Made h.b h'.b i key W n q:=by
 unfold crE at he;have h1:Adr.ident n=true:=by
  cases h:Adr.ident n with
  |true=>rfl
  |false=>rw[h,if_pos rfl]at he;cases he
 rw[h1,if_neg (by decide)]at he;have h2:hasW W n q=false:=by
  cases h:hasW W n q with
  |false=>rfl
  |true=>rw[h,if_pos rfl]at he;cases he
 rw[h2,if_neg (by decide)]at he;have h3:W.length<32:=by
  rcases Yd W.length 32 with h|h
  ·exact h
  ·rw[if_pos h]at he;cases he
 clear he;obtain⟨t1,t2,t3⟩:=az2 h1;have cr:=axe w.set;have ci:=aj3 n (by have hM:maxLen=9223372036854775807:=rfl;omega);rw[h1]at ci;have cf:=awr w n q hc;rw[h2]at cf;have cn:=fun h=>cq0 hkey t1 t2 t3 h
 have hset0:=w.set;obtain⟨b,t⟩:=h;dsimp only at w cr cf hset0⊢;refine fo ?_;refine go0 ti ?_;refine gc0 ti ?_;refine cr.mono ?_;rintro v h' ⟨rfl,rfl⟩;refine go0 ti ?_;refine gc0 ti ?_;refine(ci _).mono ?_;rintro v h' ⟨rfl,rfl⟩;refine go0 ti ?_;refine gc0 ti ?_;refine cf.mono ?_;rintro v h' ⟨rfl,L,rfl⟩;have hbL:=azd hset0 L;obtain⟨B0,hB0⟩:=Ex (b++L);obtain⟨n0,hn0⟩:=Ex (B0.length);have hbn:b.length<=n0:=by rw[<-hn0,<-hB0,Za];omega
 rw[hB0]at hbL;have cn:=cn ⟨B0,t⟩;obtain⟨s,hs⟩:=Ex (newS key n);rw[hs]at cn;obtain⟨B1,hB1⟩:=Ex (B0++[s.M,s.Bk n0]);simp only[hn0,hB1]at cn;have hi0:=get_lt hbL;have l1:B1.length=n0+2:=by rw[<-hB1,Za,hn0];rfl
 have a1:B1[i]?=some (setC key sp):=by rw[<-hB1];exact azd hbL _
 have m1:B1[n0]?=some s.M:=by rw[<-hB1,List.getElem?_append_right (by omega),hn0,Nat.sub_self];rfl
 have p1:B1[n0+1]?=some (s.Bk n0):=by rw[<-hB1,List.getElem?_append_right (by omega),hn0,show n0+1-n0=1 by omega];rfl
 have o1:∀j x,b[j]?=some x->B1[j]?=some x:=fun j x hj=>by rw[<-hB1,<-hB0];exact azd (azd hj _) _
 obtain⟨B2,hB2⟩:=Ex (B1++[.row 78 [.str n,.ptr (n0+1) 0]]);have l2:B2.length=n0+3:=by rw[<-hB2,Za,l1];rfl
 have a2:B2[i]?=some (setC key sp):=by rw[<-hB2];exact azd a1 _
 have m2:B2[n0]?=some s.M:=by rw[<-hB2];exact azd m1 _
 have p2:B2[n0+1]?=some (s.Bk n0):=by rw[<-hB2];exact azd p1 _
 have x2:B2[n0+2]?=some (.row 78 [.str n,.ptr (n0+1) 0]):=by rw[<-hB2];exact aqa l1.symm
 have o2:∀j x,b[j]?=some x->B2[j]?=some x:=fun j x hj=>by rw[<-hB2];exact azd (o1 j x hj) _
 have hV:rowC ⟨B2,t⟩ 78 2 (.bs (n0+2) 2 1)=some (1,[.str n,.ptr (n0+1) 0]):=by
  simp only[rowC,x2,if_true];rfl
 have z0:¬(W.length:Int)>=32:=by omega
 have e0:rowW [⟨n,s,n0+1,n0⟩]=[.str n,.ptr (n0+1) 0]:=rfl;have fin:∀B4 k,n0<=k->B4[i]?=some (setC key (.bs k 2 (W.length+1)))->B4[k]?=some (.row 78 (rowW (insW W q ⟨n,s,n0+1,n0⟩)))->B4[n0]?=some s.M->B4[n0+1]?=some (s.Bk n0)->(∀j x,j≠i->(∀F,x≠.row 78 F)->b[j]?=some x->B4[j]?=some x)->b.length<=B4.length->Made b B4 i key W n q:=fun B4 k hk q1 q2 q3 q4 q5 q6=>by
  subst hs;exact dzf (B1:=B1) w h3 hc h2 hbn hk q1 q2 q3 q4 q5 q6
 have sp0:=w.sp;unfold setC at hbL a1 a2;revert hbL a1 a2;cases sp0 with
 |nil=>
  intro hbL a1 a2;obtain rfl:q=0:=Nat.le_zero.1 hc.le;have cI:=fun t=>cja (Gw:=GT) (h:=⟨B2,t⟩) (W0:=0) (V:=.bs (n0+2) 2 1) (x:=[.str n,.ptr (n0+1) 0]) (by simp only[rowC,x2,if_true];rfl)
  obtain⟨B3,hB3⟩:=Ex (B2++[.row 78 [.str n,.ptr (n0+1) 0]]);simp only[hB3,l2]at cI;have a3:B3[i]?=some (.cells 72 [.str key,.bool true,.sl 0 .nil []]):=by rw[<-hB3];exact azd a2 _
  have f0:=fin (B3.set i (setC key (.bs (n0+3) 2 1))) (n0+3) (by omega) (ajh a3) ((azt (by have:=get_lt hbL;omega)).trans (by rw[<-hB3];exact aqa l2.symm)) ((azt (by have:=get_lt hbL;omega)).trans (by rw[<-hB3];exact azd m2 _)) ((azt (by have:=get_lt hbL;omega)).trans (by rw[<-hB3];exact azd p2 _)) (fun j x hj hF hb=>(azt (Ne.symm hj)).trans (by rw[<-hB3];exact azd (o2 j x hb) _)) (by rw[Zz,<-hB3,Za,l2];omega);clear fin o1 o2;unfold setC at f0;have z1:¬((0:Nat):Int)>=32:=by decide
  refine go0 (ai hB0 (ai hbL z1)) ?_;refine gc0 (ai hB0 (ai hbL z1)) ?_;refine cn.mono ?_;rintro v h' ⟨rfl,rfl⟩;refine go0 (ai a1 (ai hB2 l1)) ?_;refine gc0 (ai a1 (ai hB2 l1)) ?_;refine(cI _).mono ?_;rintro v h' ⟨rfl,rfl⟩;refine go0 a3 ?_;exact⟨_,le_refl _,rfl,rfl,f0⟩
 |@row k _ hk=>
  intro hbL a1 a2;have hkb:=get_lt hk;have hik:=(w.row_ne hk).1;have r2:=o2 k _ hk;have cI:=fun t=>dx0 (Gw:=GT) (h:=⟨B2,t⟩) (i:=k) (n:=W.length) (k:=q) (V:=.bs (n0+2) 2 1) (x:=[.str n,.ptr (n0+1) 0]) r2 (ajo W) hc.le (by simp only[rowC,x2,if_true];rfl) (fun m e=>by injection e with e1;omega) (by omega) (bwi W)
  have er:(rowW W).take (q*2)++[.str n,.ptr (n0+1) 0]++(rowW W).drop (q*2)=rowW (insW W q ⟨n,s,n0+1,n0⟩):=by
   unfold insW;rw[axp,axp,(avu W q hc.le).1,(avu W q hc.le).2,e0]
  rw[er]at cI;obtain⟨R,hR⟩:=Ex (rowW (insW W q ⟨n,s,n0+1,n0⟩));rw[hR]at cI fin;obtain⟨B3,hB3⟩:=Ex (B2.set k .gone++[.row 78 R]);simp only[hB3,l2]at cI;have a3:B3[i]?=some (.cells 72 [.str key,.bool true,.bs k 2 W.length]):=by rw[<-hB3];exact azd ((azt hik).trans a2) _
  have f0:=fin (B3.set i (setC key (.bs (n0+3) 2 (W.length+1)))) (n0+3) (by omega) (ajh a3) ((azt (by have:=get_lt hbL;omega)).trans (by rw[<-hB3];exact aqa (by rw[Zz,l2]))) ((azt (by have:=get_lt hbL;omega)).trans (by rw[<-hB3];exact azd ((azt (by omega)).trans m2) _)) ((azt (by have:=get_lt hbL;omega)).trans (by rw[<-hB3];exact azd ((azt (by omega)).trans p2) _)) (fun j x hj hF hb=>(azt (Ne.symm hj)).trans (by
    rw[<-hB3];refine azd ((azt (fun e=>?_)).trans (o2 j x hb)) _;subst e
    rw[hk]at hb;injection hb with hb;exact hF _ hb.symm)) (by rw[Zz,<-hB3,Za,Zz,l2];omega)
  clear fin o1 o2;unfold setC at f0;refine go0 (ai hB0 (ai hbL z0)) ?_;refine gc0 (ai hB0 (ai hbL z0)) ?_;refine cn.mono ?_;rintro v h' ⟨rfl,rfl⟩;refine go0 (ai a1 (ai hB2 l1)) ?_;refine gc0 (ai a1 (ai hB2 l1)) ?_;refine(cI _).mono ?_;rintro v h' ⟨rfl,rfl⟩;refine go0 a3 ?_;exact⟨_,le_refl _,rfl,rfl,f0⟩
end
end AX
end
section
open Go.RowKit
namespace AX
structure StAt(b:List Blk)(p m:Nat)(s:Sto):Prop where
 bm:b[m]?=some s.M
 bp:b[p]?=some (s.Bk m)
theorem StAt.ne{b:List Blk}{p m:Nat}{s:Sto}(h:StAt b p m s):p≠m:=fun e=>by
 have h1:=h.bm;have h2:=h.bp;unfold Sto.M at h1;unfold Sto.Bk at h2;rw[e,h1]at h2;cases h2
theorem StAt.more{b:List Blk}{p m:Nat}{s:Sto}(h:StAt b p m s)(L:List Blk):StAt (b++L) p m s:=⟨azd h.bm L,azd h.bp L⟩
theorem StAt.same{b:List Blk}{p m:Nat}{s:Sto}(h:StAt b p m s):(b.set m s.M).set p (s.Bk m)=b:=by
 have e1:b.set m s.M=b:=by obtain⟨hl,e⟩:=Zb.1 h.bm;rw[<-e];exact List.set_getElem_self hl
 rw[e1];obtain⟨hl,e⟩:=Zb.1 h.bp;rw[<-e];exact List.set_getElem_self hl
section
variable {h:Hp} {p m:Nat} {s:Sto}
theorem cyr{f:FuncId}{args:List A}{v:A}(hc:∀l t,AC f (.ptr 1 0::args) ⟨s.M::s.B::l,t⟩ fun v' h'=>v'=v/\h'=⟨s.M::s.B::l,t⟩)(ha:A.locL 0 args=true)(hv:v.loc 0=true)(w:StAt h.b p m s):
  AC f (.ptr p 0::args) h fun v' h'=>v'=v/\h'=h:=by
 have:=Sto.at_any hc ha hv w.ne w.bm w.bp;rw[w.same]at this;exact this
theorem bwz(w:StAt h.b p m s):AT 34 [.ptr p 0] h (.tup [.str s.own,.int .i64 s.left]):=
 cyr (fun l t=>cvs s l t) rfl rfl w
theorem awy(w:StAt h.b p m s)(hk:s.key.length<=1000000000)(hb:∀b,lfind s.latest s.es=some b->b.length<=1048600):AT 15 [.ptr p 0] h (.tup [(s.at' s.latest).1.A,.int .i64 (s.at' s.latest).2]):=
 cyr (fun l t=>dxq s l t hk hb) rfl (by simp[A.loc,A.locL,Sf.St.A]) w
theorem cyb(w:StAt h.b p m s)(who:List UInt8)(hw:who.length<=2000000)(n:Int):AC 32 [.ptr p 0,.str who,.int .i64 n] h fun r h'=>r=.int .i64 (s.lock who n).2/\h'=⟨(h.b.set m (s.lock who n).1.M).set p ((s.lock who n).1.Bk m),h.t⟩:=
 Sto.at_any (fun l t=>djq s l t who hw n) rfl rfl w.ne w.bm w.bp
theorem bw0(w:StAt h.b p m s)(who:List UInt8):AC 33 [.ptr p 0,.str who] h fun r h'=>r=.int .i64 (s.unlock who).2/\h'=⟨(h.b.set m (s.unlock who).1.M).set p ((s.unlock who).1.Bk m),h.t⟩:=
 Sto.at_any (fun l t=>cw2 s l t who) rfl rfl w.ne w.bm w.bp
theorem cx9(w:StAt h.b p m s)(who:List UInt8)(st:Sf.St)(hin:Sf.StIn st)(hk:s.key.length<=1000000000)(hE:(Sf.stE 2 st).length+20<=1000000000):AC 35 [.ptr p 0,.str who,st.A] h fun r h'=>r=.int .i64 (s.write who st).2/\h'=⟨(h.b.set m (s.write who st).1.M).set p ((s.write who st).1.Bk m),h.t⟩:=
 Sto.at_any (fun l t=>ckb s l t who st hin hk hE) (by simp[A.loc,A.locL,Sf.St.A]) rfl w.ne w.bm w.bp
theorem WsAt.st{b:List Blk}{i:Nat}{key:List UInt8}{sp:A}{W:List Ent}(w:WsAt b i key sp W){e:Ent}(he:e∈W):StAt b e.p e.m e.s:=⟨(w.ent e he).1,(w.ent e he).2⟩
theorem SpAt.row_of{b:List Blk}{sp:A}{W:List Ent}(h:SpAt b sp W)(hp:0<W.length):∃k,b[k]?=some (.row 78 (rowW W))/\sp=.bs k 2 W.length:=by
 cases h with
 |nil=>exact absurd hp (Nat.not_lt_zero _)
 |row hk=>exact⟨_,hk,rfl⟩
def dlE(e:Ent)(st:Sf.St):Int:=if e.s.own≠[]then 24 else if 0<st.insts.length+st.pends.length then 38 else 0
theorem bzm{i:Nat}{key:List UInt8}{sp:A}{W:List Ent}(w:WsAt h.b i key sp W)(n:List UInt8)(q:Nat)(hc:CutW W n q)(hh:hasW W n q=false):
  AC 12 [.ptr i 0,.str n] h fun v h'=>v=.int .i64 9/\∃L,h'=⟨h.b++L,h.t⟩:=by
 have cr:=axe w.set;have cf:=awr w n q hc;rw[hh]at cf;refine fo ?_;refine go0 ti ?_;refine gc0 ti ?_;refine cr.mono ?_;rintro v h' ⟨rfl,rfl⟩;refine go0 ti ?_;refine gc0 ti ?_;refine cf.mono ?_;rintro v h' ⟨rfl,L,rfl⟩;refine go0 ti ?_;exact⟨_,le_refl _,rfl,L,rfl⟩
structure Gone(b b':List Blk)(i:Nat)(key:List UInt8)(W:List Ent)(q:Nat):Prop where
 at':∃sp,WsAt b' i key sp (W.take q++W.drop (q+1))
 keep:KeepC i b b'
 len:b.length<=b'.length
theorem avr{i:Nat}{key:List UInt8}{sp:A}{W:List Ent}(w:WsAt h.b i key sp W)(n:List UInt8)(q:Nat)(hc:CutW W n q)(hh:hasW W n q=true)(e:Ent)(he:W[q]?=some e)(st:Sf.St)(hr:e.s.at' e.s.latest=(st,0))(hl:st.insts.length+st.pends.length<=1000000)(hk:e.s.key.length<=1000000000)(hb:∀b,lfind e.s.latest e.s.es=some b->b.length<=1048600):
  AC 12 [.ptr i 0,.str n] h fun v h'=>v=.int .i64 (dlE e st)/\h'.t=h.t/\(dlE e st≠0->∃L,h'.b=h.b++L)/\(dlE e st=0->Gone h.b h'.b i key W q):=by
 have cr:=axe w.set;have cf:=awr w n q hc;rw[hh]at cf;have hlt:=bzn hh;have heW:W[q]=e:=by rw[Zh hlt]at he;injection he
 have hem:e∈W:=by rw[<-heW];exact Zk hlt
 obtain⟨b,t⟩:=h;dsimp only at w cr cf⊢;have hset0:=w.set;have hz:(0:Int)<=(q:Int)/\(q:Int)<(W.length:Int):=by omega
 have hlen:=w.len;have sp0:=w.sp;obtain⟨k,hk0,rfl⟩:=sp0.row_of (by omega);obtain⟨g1,_,g3⟩:=av9 W q hlt;have g1':q*2+1+1<=(rowW W).length:=by omega
 rw[heW]at g3;refine fo ?_;refine go0 ti ?_;refine gc0 ti ?_;refine cr.mono ?_;rintro v h' ⟨rfl,rfl⟩;refine go0 ti ?_;refine gc0 ti ?_;refine cf.mono ?_;rintro v h' ⟨rfl,L,rfl⟩;have hbL:=azd hset0 L;have hkL:=azd hk0 L;have hw:=(w.st hem).more L;have hb0:∀j x,b[j]?=some x->(b++L)[j]?=some x:=fun j x hj=>azd hj L
 have hln:b.length<=(b++L).length:=by rw[Za];omega
 have ex:∃L',b++L=b++L':=⟨L,rfl⟩;have ey:∀x:Blk,∃L',b++L++[x]=b++L':=fun x=>⟨L++[x],Zi _ _ _⟩
 obtain⟨B,hB⟩:=Ex (b++L);simp only[hB]at hbL hkL hw hb0 hln ex ey⊢;clear hB;have c1:=bwz (h:=⟨B,t⟩) hw;have c2:=awy (h:=⟨B,t⟩) hw hk hb;rw[hr]at c2;unfold setC at hbL;have hrow:=ajo W;obtain⟨F,hF⟩:=Ex (rowW W);obtain⟨own,hown⟩:∃own,e.s.own=own:=⟨_,rfl⟩;unfold dlE;rw[hown]at c1⊢;rw[hF]at g1' g3 hkL;by_cases h1:own=[]
 rotate_left
 ·have e1:(own != [])=true:=by simp[h1]
  rw[if_pos h1];refine go0 (ai hbL (ai hkL (ai hz (ai g1' g3)))) ?_;refine gc0 (ai hbL (ai hkL (ai hz (ai g1' g3)))) ?_;refine c1.mono ?_;rintro v h' ⟨rfl,rfl⟩;refine go0 e1 ?_;exact⟨_,le_refl _,rfl,rfl,fun _=>ex,fun e=>by cases e⟩
 have e1:(own != [])=false:=by simp[h1]
 rw[if_neg (by simp[h1])];obtain⟨lin,ser,ins,ps,os⟩:=st;simp only[Sf.St.A]at c2;dsimp only at hl⊢;have li:(ins.map Sf.Inst.cells).length=ins.length:=Zj _;have lp:(ps.map Sf.Pend.cells).length=ps.length:=Zj _;have w1:IntKind.i64.wrap ((ins.length:Int)+(ps.length:Int))=(ins.length:Int)+(ps.length:Int):=wrap64 (by omega) (by omega);by_cases h2:0<ins.length+ps.length
 ·have e2:(ins.length:Int)+(ps.length:Int)>0:=by omega
  rw[if_pos h2];refine go0 (ai hbL (ai hkL (ai hz (ai g1' g3)))) ?_;refine gc0 (ai hbL (ai hkL (ai hz (ai g1' g3)))) ?_;refine c1.mono ?_;rintro v h' ⟨rfl,rfl⟩;refine go0 e1 ?_;refine gc0 e1 ?_;refine c2.mono ?_;rintro v h' ⟨rfl,rfl⟩;refine go0 (ai li (ai lp (ai w1 e2))) ?_;exact⟨_,le_refl _,rfl,rfl,fun _=>ey _,fun e=>by cases e⟩
 ·have e2:¬(ins.length:Int)+(ps.length:Int)>0:=by omega
  rw[if_neg h2];have w2:IntKind.i64.wrap ((q:Int)+1)=((q+1:Nat):Int):=by rw[wrap64 (by omega) (by omega)];omega
  obtain⟨B1,hB1⟩:=Ex (B++[.cells 42 [.str lin,.int .i64 ser,.sl 13 .no (ins.map Sf.Inst.cells),.sl 3 .no (ps.map Sf.Pend.cells),.sl 7 .no (os.map Sf.Outp.cells)]]);have sb:B1[B.length]?=some (.cells 42 [.str lin,.int .i64 ser,.sl 13 .no (ins.map Sf.Inst.cells),.sl 3 .no (ps.map Sf.Pend.cells),.sl 7 .no (os.map Sf.Outp.cells)]):=by rw[<-hB1];exact Zl
  have k1:B1[k]?=some (.row 78 F):=by rw[<-hB1];exact azd hkL _
  have s1:B1[i]?=some (.cells 72 [.str key,.bool true,.bs k 2 W.length]):=by rw[<-hB1];exact azd hbL _
  have cD:=dx2 (Gw:=GT) (h:=⟨B1,t⟩) k1 (by rw[<-hF];exact hrow) hlt (by rw[<-hF];exact bwi W);have er:F.take (q*2)++F.drop ((q+1)*2)=rowW (W.take q++W.drop (q+1)):=by
   rw[axp,<-hF,(avu W q (Nat.le_of_lt hlt)).1,(avu W (q+1) hlt).2]
  rw[er]at cD;obtain⟨R,hR⟩:=Ex (rowW (W.take q++W.drop (q+1)));rw[hR]at cD;obtain⟨B2,hB2⟩:=Ex (B1.set k (.row 78 R));simp only[hB2]at cD;obtain⟨hki,hne⟩:=w.row_ne hk0;have s2:B2[i]?=some (.cells 72 [.str key,.bool true,.bs k 2 W.length]):=by rw[<-hB2];exact(azt hki).trans s1
  have lW:(W.take q++W.drop (q+1)).length=W.length-1:=by rw[Za,Zp,ZC];omega
  have sub:(W.take q++W.drop (q+1)).Sublist W:=by
   have:=List.Sublist.append (List.Sublist.refl (W.take q)) (List.drop_sublist_drop_left W (Nat.le_succ q))
   rwa [Yj]at this
  have hold:∀j x,j≠i->j≠k->b[j]?=some x->(B2.set i (setC key (.bs k 2 (W.length-1))))[j]?=some x:=fun j x h1 h2 hj=>(azt (Ne.symm h1)).trans (by rw[<-hB2];exact(azt (Ne.symm h2)).trans (by rw[<-hB1];exact azd (hb0 j x hj) _))
  have f0:Gone b (B2.set i (setC key (.bs k 2 (W.length-1)))) i key W q:=by
   refine⟨⟨.bs k 2 (W.length-1),⟨ajh s2,?_,fun e he=>?_,w.ps.sublist (sub.map _),w.ms.sublist (sub.map _),List.Pairwise.sublist sub w.srt,by omega⟩⟩,fun j T l hj hbj=>hold j _ hj (fun ee=>by rw[ee,hk0]at hbj;cases hbj) hbj,?_⟩
   ·rw[<-lW];refine .row ?_;rw[hR,lW];exact(azt (Ne.symm hki)).trans (by rw[<-hB2];exact ajh k1)
   ·have he:=sub.mem he;obtain⟨n1,n2,n3,n4⟩:=hne e he;obtain⟨h1,h2⟩:=w.ent e he;exact⟨hold _ _ n1 n3 h1,hold _ _ n2 n4 h2⟩
   ·rw[Zz,<-hB2,Zz,<-hB1,Za];omega
  unfold setC at f0;clear hold hb0;refine go0 (ai hbL (ai hkL (ai hz (ai g1' g3)))) ?_;refine gc0 (ai hbL (ai hkL (ai hz (ai g1' g3)))) ?_;refine c1.mono ?_;rintro v h' ⟨rfl,rfl⟩;refine go0 e1 ?_;refine gc0 e1 ?_;refine c2.mono ?_;rintro v h' ⟨rfl,rfl⟩;refine go0 (ai li (ai lp (ai w1 (ai e2 (ai hB1 (ai sb (ai s1 w2))))))) ?_;refine gc0 (ai li (ai lp (ai w1 (ai e2 (ai hB1 (ai sb (ai s1 w2))))))) ?_;refine cD.mono ?_;rintro v h' ⟨rfl,rfl⟩;refine go0 s2 ?_;exact⟨_,le_refl _,rfl,rfl,fun e=>absurd rfl e,fun _=>f0⟩
end
end AX
end
end Go.Proofs.YthhpocnmfknalaaGreatDoor
