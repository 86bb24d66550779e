/- Part of what the proof needs. -/
import Derived.Test.YthhpocnmfknalaaGreatDoorMFrWorkspaceCallsM
import Derived.Test.YthhpocnmfknalaaGreatDoorMFrWorkspaceCallsQ
import Derived.Laws.RangeAny
import Derived.Laws.Runes
import Derived.Lib.OthersKept
import Derived.Deep.LoopGhost
import Derived.WalkMore
set_option maxHeartbeats 4000000
set_option maxRecDepth 100000
set_option linter.all false
namespace Go.Proofs.YthhpocnmfknalaaGreatDoor
section
open Go.RowKit Go.Lib
def stops:ByteArray:=⟨#[46,91]⟩
theorem bzg(w:World)(s:ByteArray)(p:Nat):Below w.heap.size w (w.iter s p):=by
 refine⟨rfl,rfl,rfl,?_,fun g hg=>?_⟩
 ·show w.heap.size<=(w.heap.push (Obj.stringIter s p)).size
  simp
 ·show(w.heap.push (Obj.stringIter s p))[g]?=_
  rw[Array.getElem?_push,if_neg (by omega)]
theorem bqa(w:World):Calls Tryz.prog 192 #[.string stops,.int .i32 65533] w fun e w'=>e=.returned (.int .i64 (-1))/\Below w.heap.size w w':=by
 go_enter Tryz.func192,Tryz.ntmps192;have hsz:stops.size=2:=rfl;go_wp2_with fail
 go_loopg [5,6] 2 (fun g _ _ wx=>∃i:Nat,i+g=2/\wx=w.iter stops i)
 case atStart=>exact⟨0,by omega,rfl⟩
 case round=>
  obtain⟨i,hig,rfl⟩:=hrel;cases gk with
  |zero=>
   obtain rfl:i=2:=by omega
   have hnx:=fun ty=>run_next_end (P:=Tryz.prog) w stops 2 ty (by decide)
   go_wp2
   go_ret
   exact⟨rfl,bzg w stops 2⟩
  |succ g=>
   have hi:i=0\/i=1:=by omega
   rcases hi with rfl|rfl
   ·have hnx:=fun ty=>run_next_ascii (P:=Tryz.prog) w stops 0 ty (by decide) (by decide)
    have e0:((stops[0]'(by decide)).toNat:Int)=46:=rfl;rw[e0]at hnx;go_wp2
    go_roundg g
    case measure=>omega
    case rel=>exact⟨1,by omega,rfl⟩
   ·have hnx:=fun ty=>run_next_ascii (P:=Tryz.prog) w stops 1 ty (by decide) (by decide)
    have e0:((stops[1]'(by decide)).toNat:Int)=91:=rfl;rw[e0]at hnx;go_wp2
    go_roundg g
    case measure=>omega
    case rel=>exact⟨2,by omega,rfl⟩
theorem bjb(r:Int)(h0:128<=r)(h1:r<=2147483647)(hr:r≠65533)(w:World):Calls Tryz.prog 192 #[.string stops,.int .i32 r] w fun e w'=>e=.returned (.int .i64 (-1))/\Below w.heap.size w w':=by
 go_enter Tryz.func192,Tryz.ntmps192;have hsz:stops.size=2:=rfl;have c1:decide (0<=r)=true:=Yg (by omega);have c2:decide (r<128)=false:=Yp (by omega);have c3:(r==65533)=false:=Zs.2 hr;have Hv:=kept (fun w=>Tryz.utf8_ValidRune r w);cases hv:Lib.validRune r
 ·go_wp2_with fail;(with_reducible refine(Hv.out _).mono ?_);rintro e w1 ⟨rfl,rfl⟩
  rw[hv];go_wp2
  go_ret
  exact⟨rfl,Below.refl _ _⟩
 ·have hval:Utf8.valid r=true:=by rw[Go.validRune_eq];unfold Lib.validRune at hv;unfold Go.validRune;exact hv
  obtain⟨f1,f2,f3⟩:=encode_facts r hval h0;go_wp2_with fail;(with_reducible refine(Hv.out _).mono ?_);rintro e w1 ⟨rfl,rfl⟩
  rw[hv];have e1:IntKind.i64.wrap (((Utf8.encode r).size:Int)-1)=(((Utf8.encode r).size-1:Nat):Int):=by rw[show((Utf8.encode r).size:Int)-1=(((Utf8.encode r).size-1:Nat):Int) by omega];exact Go.IntWalk.i64_in _ ⟨by omega,by omega⟩
  have hcv:=fun(w:World)=>run_convert_int_string (P:=Tryz.prog) w 21 9 .i32 r rfl rfl
  go_wp2_with fail;apply wp_scope_straight;go_wp2
  go_loopg [9,10,11,12] 1 (fun g v9 v10 v11 v12 wx=>wx=w1/\v9=.int .i64 (((Utf8.encode r).size-1:Nat):Int))
  case atStart=>exact⟨rfl,rfl⟩
  case round=>
   obtain⟨rfl,rfl⟩:=hrel;by_cases h2:(Utf8.encode r).size=2
   ·have e2:(Utf8.encode r).size-1=1:=by omega
    obtain⟨x,hx⟩:∃x:UInt8,(Utf8.encode r)[1]'(by omega)=x:=⟨_,rfl⟩;have hx1:128<=x.toNat:=by
     have:=f3 (by omega);simp only[e2]at this;rw[hx]at this;exact this
    have hi1:(1:Nat)<(Utf8.encode r).size:=by omega
    have hs1:(stops[1]'(by decide)).toNat=91:=rfl;have hne:((91:Int)!=(x.toNat:Int))=true:=by simp;omega
    have e3:(((Utf8.encode r).size-1:Nat):Int)=1:=by omega
    have hi2:(1:Int)<((Utf8.encode r).size:Int):=by omega
    rw[e3];go_wp2;apply wp_scope_straight;go_wp2_with fail
    go_region
    have hw2:IntKind.i64.wrap ((1:Int)+1)=2:=rfl;have hib0:Lib.indexByte [] x=-1:=rfl;go_wp2_with fail
    go_region_with ((with_reducible refine(Tryz.strings_IndexByte _ _ _).mono ?_);rintro e2 w2 ⟨rfl,rfl⟩)
    all_goals
     go_wp2;rw[Exit.noGoto_ret];go_wp2;rw[Exit.noGoto_ret];go_wp2
     go_ret
     first|exact⟨rfl,below_drewN (Below.refl _ _) 2⟩|exact⟨rfl,below_drewN _ 2⟩
   ·have hlt:¬((((Utf8.encode r).size-1:Nat):Int)<(stops.size:Int)):=by omega
    go_wp2
    go_ret
    exact⟨rfl,Below.refl _ _⟩
theorem akc(s:ByteArray)(i j:Nat)(h1:1<=j)(hj:j<(Utf8.decode s i).2):i+j<s.size/\128<=(s.get! (i+j)).toNat:=by
 unfold Utf8.decode at hj;dsimp only at hj;split at hj
 ·simp only at hj;omega
 ·split at hj
  ·next h=>
   simp only[Zg,Zx,ZT]at h;split at hj
   ·simp only at hj;obtain rfl:j=1:=by omega
    omega
   ·simp only at hj;omega
  ·split at hj
   ·next h=>
    simp only[Zg,Zx,ZT]at h;split at hj
    ·simp only at hj;have:j=1\/j=2:=by omega
     rcases this with rfl|rfl<;>omega
    ·simp only at hj;omega
   ·split at hj
    ·next h=>
     simp only[Zg,Zx,ZT]at h;split at hj
     ·simp only at hj;have:j=1\/j=2\/j=3:=by omega
      rcases this with rfl|rfl|rfl<;>omega
     ·simp only at hj;omega
    ·simp only at hj;omega
theorem bq6(r:Int)(h0:128<=r)(h1:r<=2147483647)(w:World):Calls Tryz.prog 192 #[.string stops,.int .i32 r] w fun e w'=>e=.returned (.int .i64 (-1))/\Below w.heap.size w w':=by
 by_cases h:r=65533
 ·subst h;exact bqa w
 ·exact bjb r h0 h1 h w
theorem czh{s:ByteArray}{i:Nat}(hi:i<s.size)(hx:128<=(s[i]'hi).toNat)(h:Lib.NoAny s.data.toList stops.data.toList i):Lib.NoAny s.data.toList stops.data.toList (i+(Utf8.decode s i).2)/\i+(Utf8.decode s i).2<=s.size/\1<=(Utf8.decode s i).2:=by
 have hd:=(decode_high s i hi hx).2;refine⟨fun j b hj hb=>?_,?_,hd⟩
 ·by_cases hji:j<i
  ·exact h j b hji hb
  ·have hjs:j<s.size:=by
    have:=(Zb.1 hb).1;simpa using this
   have hb':b=s[j]'hjs:=by
    have:=Lib.data_getElem? s j hjs;rw[this]at hb;exact(Zap hb).symm
   have h128:128<=b.toNat:=by
    by_cases hji2:j=i
    ·subst hji2;rw[hb'];exact hx
    ·have:=(akc s i (j-i) (by omega) (by omega)).2;rw[show i+(j-i)=j by omega]at this;rw[hb'];have e:s.get! j=s[j]'hjs:=get_at s j hjs;rw[e]at this;exact this
   have hne:b≠46/\b≠91:=by
    constructor
    ·rintro rfl;exact absurd h128 (by decide)
    ·rintro rfl;exact absurd h128 (by decide)
   show[(46:UInt8),91].contains b=false
   simp[hne.1,hne.2]
 ·by_cases h1:(Utf8.decode s i).2=1
  ·omega
  ·have:=(akc s i ((Utf8.decode s i).2-1) (by omega) (by omega)).1;omega
theorem ayv(s:ByteArray)(w:World)(h8:s.size<=8):Calls Tryz.prog 179 #[.string s,.string stops] w fun e w'=>e=.returned (.int .i64 (Lib.indexAny s.data.toList stops.data.toList))/\Below w.heap.size w w':=by
 have hss:stops.size=2:=rfl;have hemp:stops.toList.isEmpty=false:=by rw[Lib.toList_data];rfl
 have hn1:((stops.size:Int)==1)=false:=rfl;have h8z:decide ((8:Int)<(s.size:Int))=false:=Yp (by omega);go_enter Tryz.func179,Tryz.ntmps179;go_wp2_with fail;(with_reducible refine(Tryz.strings_shouldUseASCIISet _ _).mono ?_);rintro e w1 ⟨rfl,rfl⟩
 rw[h8z];go_wp2_with fail
 go_loopg [9,10] s.size (fun g _ _ wx=>∃i:Nat,s.size<=i+g/\i<=s.size/\wx.heap[w1.heap.size]?=some (.stringIter s i)/\Below w1.heap.size w1 wx/\Lib.NoAny s.data.toList stops.data.toList i)
 case atStart=>exact⟨0,by omega,by omega,World.iter_heap _ _ _,bzg _ _ _,Lib.NoAny.zero _ _⟩
 case round=>
  obtain⟨i,hig,his,hit,hbel,hno⟩:=hrel;by_cases hi:i<s.size
  ·cases gk with
   |zero=>omega
   |succ g=>
    obtain⟨x,hx⟩:∃x:UInt8,s[i]'hi=x:=⟨_,rfl⟩;have hxl:s.data.toList[i]?=some x:=by rw[<-hx];exact Lib.data_getElem? s i hi
    by_cases ha:x.toNat<128
    ·have hnx:=fun ty=>run_next_ascii_at (P:=Tryz.prog) wr w1.heap.size s i ty hit hi (by rw[hx];exact ha)
     rw[hx]at hnx;have Hit:=kept (iterAt_heap wr w1.heap.size s i (i+1) hit);have Hbel:=kept (below_iterAt hbel (Ze _) s (i+1));have Hno:=kept hno;have Hxl:=kept hxl;have hcon:=Lib.contains_iff_indexByte stops.data.toList x;have hback:((x.toNat:Int)).toNat.toUInt8=x:=by simp
     have Hx:=kept hx;clear hit hbel hno hxl hx;cases hin:stops.data.toList.contains x
     ·rw[hin]at hcon;have hlt:¬((0:Int)<=Lib.indexByte stops.data.toList x):=of_decide_eq_false hcon.symm;clear hcon;go_wp2_with fail;(with_reducible refine(Tryz.strings_IndexRune_ascii _ _ _ (by omega) (by omega)).mono ?_);rintro e w2 ⟨rfl,rfl⟩
      rw[hback];go_wp2
      go_roundg g
      case measure=>omega
      case rel=>exact⟨i+1,by omega,by omega,Hit.out,Hbel.out,Hno.out.succ Hxl.out hin⟩
     ·rw[hin]at hcon;have hge:(0:Int)<=Lib.indexByte stops.data.toList x:=of_decide_eq_true hcon.symm;clear hcon;go_wp2_with fail;(with_reducible refine(Tryz.strings_IndexRune_ascii _ _ _ (by omega) (by omega)).mono ?_);rintro e w2 ⟨rfl,rfl⟩
      rw[hback];go_wp2
      go_ret
      exact⟨by rw[Lib.indexAny_hit Hno.out Hxl.out hin];rfl,Hbel.out⟩
    ·have hx128:128<=(s[i]'hi).toNat:=by rw[hx];omega
     obtain⟨k1,k2,k3⟩:=czh hi hx128 hno;have d1:=(decode_high s i hi hx128).1;have d2:=decode_le s i;have hnx:=fun ty=>run_next_any_at (P:=Tryz.prog) wr w1.heap.size s i ty hit hi
     obtain⟨⟨c,d⟩,hcd⟩:=Ex (Utf8.decode s i);rw[hcd]at k1 k2 k3 d1 d2 hnx;dsimp only at k1 k2 k3 d1 d2 hnx;have Hit:=kept (iterAt_heap wr w1.heap.size s i (i+d) hit);have Hbel:=kept (below_iterAt hbel (Ze _) s (i+d));have K1:=kept k1;clear hit hbel hno hxl hx hx128 hcd k1;go_wp2_with fail;(with_reducible refine(bq6 _ (by omega) (by omega) _).mono ?_);rintro e w2 ⟨rfl,b2⟩
     have hit2:w2.heap[w1.heap.size]?=some (.stringIter s (i+d)):=by rw[b2.block _ (ZS.1 Hit.out).1];exact Hit.out
     have Hit2:=kept hit2;have Hbel2:=kept (Hbel.out.trans (b2.mono (by have:=Hbel.out.size;exact this)));clear hit2 b2;go_wp2
     go_roundg g
     case measure=>omega
     case rel=>exact⟨i+d,by omega,by omega,Hit2.out,Hbel2.out,K1.out⟩
  ·obtain rfl:i=s.size:=by omega
   have hnx:=fun ty=>run_next_end_at (P:=Tryz.prog) wr w1.heap.size s s.size ty hit (by omega)
   have Hno:=kept hno;have Hbel:=kept hbel;clear hno hbel;go_wp2
   go_ret
   exact⟨by rw[Lib.indexAny_none (by rw[<-Lib.size_eq];exact Hno.out)];rfl,Hbel.out⟩
set_option maxHeartbeats 8000000 in
theorem bqw(s:ByteArray)(h8:8<s.size)(hs:s.size<=9223372036854775807)(w:World):Calls Tryz.prog 179 #[.string s,.string stops] w fun e w'=>e=.returned (.int .i64 (Lib.indexAny s.data.toList stops.data.toList))/\Below w.heap.size w w':=by
 have hz:=zero_of_info (P:=Tryz.prog) (t:=243) (n:=256) (v:=.agg (Array.replicate 256 (.bool false))) (by kernel_rfl);obtain⟨cells,hcells⟩:=Ex (Lib.setCells stops.data.toList);have hasc:∀(j:Nat) b,stops.data.toList[j]?=some b->b.toNat<128:=by
  intro j b hb
  match j,hb with
  |0,hb=>cases hb;decide
  |1,hb=>cases hb;decide
  |j+2,hb=>simp[stops]at hb
 have Hset:=kept (Tryz.strings_makeASCIISet hz.1 stops w (by decide) hasc);obtain⟨W,hW⟩:=Ex ((w.alloc (.cells cells 243)).alloc (.cells cells 243));have hbel:Below w.heap.size w W:=by
  rw[<-hW];exact((Below.refl _ _).alloc (Ze _) _).alloc (((Below.refl w.heap.size w).alloc (Ze _) (.cells cells 243)).size) _
 have hcell:∀x:UInt8,W.cell? ⟨w.heap.size+1,x.toNat,none⟩=some (.bool (stops.data.toList.contains x)):=fun x=>by
  rw[<-hW,World.cell?_alloc_at _ _ _ _ (by simp),<-hcells,Lib.setCells_at]
 have hst:(storeCells ⟨w.heap.size+1,0,none⟩ cells.toList 0).run Tryz.prog ((w.alloc (.cells cells 243)).alloc (.cells (Array.replicate 256 (.bool false)) 243))=.ok () W:=by
  have:=run_storeCells_new (P:=Tryz.prog) (w.alloc (.cells cells 243)) 243 (Array.replicate 256 (.bool false)) cells (by rw[<-hcells,Lib.setCells_size];exact hz.2) (by rw[<-hcells,Lib.setCells_size,Array.size_replicate]) (by rw[<-hcells];exact Lib.setCells_one _);rw[hW]at this;simpa using this
 have hemp:stops.toList.isEmpty=false:=by rw[Lib.toList_data];rfl
 have hn1:((stops.size:Int)==1)=false:=rfl;have h8z:decide ((8:Int)<(s.size:Int))=true:=Yg (by omega);have HC:=kept hcell;have HB:=kept hbel;clear hcell hbel;rw[hcells]at Hset;go_enter Tryz.func179,Tryz.ntmps179;go_wp2_with fail;(with_reducible refine(Tryz.strings_shouldUseASCIISet _ _).mono ?_);rintro e w1 ⟨rfl,rfl⟩
 rw[h8z];go_wp2_with fail;(with_reducible refine Hset.out.mono ?_);rintro e w1 ⟨rfl,rfl⟩
 have hcsz:cells.size=256:=by rw[<-hcells];exact Lib.setCells_size _
 have e0:Tryz.zeroCells243=Array.replicate 256 (.bool false):=by kernel_rfl
 go_wp2
 go_loopg [8] s.size (fun g s8 wx=>∃i:Nat,i+g=s.size/\s8=.int .i64 i/\wx=W/\Lib.NoAny s.data.toList stops.data.toList i)
 case atStart=>exact⟨0,by omega,rfl,rfl,Lib.NoAny.zero _ _⟩
 case round=>
  obtain⟨i,hig,rfl,rfl,hno⟩:=hrel;have HN:=kept hno;clear hno;cases gk with
  |zero=>
   obtain rfl:i=s.size:=by omega
   have hiz:¬((s.size:Int)<(s.size:Int)):=by omega
   go_wp2
   go_ret
   exact⟨by rw[Lib.indexAny_none (by rw[<-Lib.size_eq];exact HN.out)];rfl,HB.out⟩
  |succ g=>
   have hi:i<s.size:=by omega
   have hiz:(i:Int)<(s.size:Int):=by omega
   have hw:IntKind.i64.wrap ((i:Int)+1)=(i:Int)+1:=Go.IntWalk.i64_in _ ⟨by omega,by omega⟩;obtain⟨x,hx⟩:∃x:UInt8,s[i]'hi=x:=⟨_,rfl⟩;have hxl:s.data.toList[i]?=some x:=by rw[<-hx];exact Lib.data_getElem? s i hi
   have Hxl:=kept hxl;clear hxl;have hcx:=HC.out x;cases hin:stops.data.toList.contains x<;>rw[hin]at hcx
   ·go_wp2_with fail;(with_reducible refine(Tryz.asciiSet_contains _ x _ _ hcx).mono ?_);rintro e w2 ⟨rfl,rfl⟩
    go_wp2
    go_roundg g
    case measure=>omega
    case rel=>exact⟨i+1,by omega,by first|rfl|simp,rfl,HN.out.succ Hxl.out hin⟩
   ·go_wp2_with fail;(with_reducible refine(Tryz.asciiSet_contains _ x _ _ hcx).mono ?_);rintro e w2 ⟨rfl,rfl⟩
    go_wp2
    go_ret
    exact⟨by rw[Lib.indexAny_hit HN.out Hxl.out hin];rfl,HB.out⟩
theorem bxv(s:ByteArray)(hs:s.size<=9223372036854775807)(w:World):Calls Tryz.prog 179 #[.string s,.string stops] w fun e w'=>e=.returned (.int .i64 (Lib.indexAny s.data.toList stops.data.toList))/\Below w.heap.size w w':=by
 by_cases h8:s.size<=8
 ·exact ayv s w h8
 ·exact bqw s (by omega) hs w
end
section
open Go.RowKit
namespace Adr
def first(k:Nat)(c:UInt8):Bool:=if k=0 then letter c else wordB c
def idOk(j:Nat)(s:List UInt8):Prop:=∀k,k<j->first k (s.getD k 0)=true
theorem wordB_of_letter{c:UInt8}(h:letter c=true):wordB c=true:=by unfold wordB;rw[h];rfl
theorem ident_fail{s:List UInt8}{j:Nat}(hj:j<s.length)(h:first j (s.getD j 0)=false):ident s=false:=by
 unfold ident;unfold first at h;split at h
 ·next e=>
  subst e;rw[h];simp
 ·have:s.all wordB=false:=by
   rw[List.all_eq_false];refine⟨s[j],Zl hj,?_⟩;have e:s.getD j 0=s[j]:=by simp[List.getD,hj]
   rw[e]at h;rw[h];decide
  simp[this]
theorem ident_end{s:List UInt8}(h:idOk s.length s):ident s=(s != []&&decide (s.length<=64)):=by
 unfold ident;cases s with
 |nil=>rfl
 |cons c t=>
  have h0:letter ((c::t).getD 0 0)=true:=by
   have:=h 0 (by simp);unfold first at this
   rwa [if_pos rfl]at this
  have h1:(c::t).all wordB=true:=by
   rw[ZD];intro x hx;obtain⟨j,hj,rfl⟩:=List.getElem_of_mem hx;have:=h j hj;have e:(c::t).getD j 0=(c::t)[j]:=by rw[Yf,Zj hj];rfl
   unfold first at this;rw[e]at this;split at this
   ·exact wordB_of_letter this
   ·exact this
  rw[h0,h1];simp
theorem or_letter:∀n:Fin 256,letter (UInt8.ofNat n.val)=!((((n.val:Nat):Int)!=95)&&(decide (bits .or .u8 ((n.val:Nat):Int) 32<97)||decide (bits .or .u8 ((n.val:Nat):Int) 32>122))):=by decide +kernel
theorem letter_or(c:UInt8):letter c=!(((c.toNat:Int)!=95)&&(decide (bits .or .u8 (c.toNat:Int) 32<97)||decide (bits .or .u8 (c.toNat:Int) 32>122))):=by
 have:=or_letter ⟨c.toNat,c.toNat_lt⟩;simpa using this
end Adr
namespace AX
def bko:AX.AFn:=⟨15,aS [aR 4 (.mv (.c (.str []))),aR 5 (.mv (.c (.bool false)))] (.seq (aS [aM 6 0,aM 7 1,aR 8 (.call 119 [.t 6,.t 7]),aR 9 (.un .not (.t 8))] (.cond (.t 9) (aS [aM 10 0,aM 4 10,aR 5 (.mv (.c (.bool false)))] (.ret)) (.skip))) (aS [aM 11 0,aM 12 1,aR 13 (.len true (.t 12)),aR 14 (.ssl (.t 11) (some (.t 13)) none),aM 4 14,aR 5 (.mv (.c (.bool true)))] (.ret))),[.t 4,.t 5]⟩
theorem cy1:AX.compFn Tryz.prog 191=some bko:=by kernel_rfl
def cxs:AX.AFn:=⟨11,aS [aR 4 (.mv (.c (.str []))),aR 5 (.mv (.c (.bool false)))] (aS [aM 6 0,aM 7 1,aR 8 (.call 191 [.t 6,.t 7]),aE 9 8 0,aE 10 8 1,aM 4 9,aM 5 10] (.ret)),[.t 4,.t 5]⟩
theorem djn:AX.compFn Tryz.prog 178=some cxs:=by kernel_rfl
def cx6:AX.AFn:=⟨21,aS [aR 4 (.mv (.c (.bool false)))] (aS [aM 8 0,aR 9 (.nilck (.t 8)),aF 10 0 9,aL 11 10,aM 12 1,aR 13 (.call 178 [.t 11,.t 12]),aM 7 13,aE 14 7 0,aE 15 7 1,aM 5 14,aM 6 15] (aS [aM 16 0,aM 17 5,aR 18 (.nilck (.t 16)),aF 19 0 18,aU (.store 1 (.t 19) (.t 17))] (aS [aM 20 6,aM 4 20] (.ret)))),[.t 4]⟩
theorem djg:AX.compFn Tryz.prog 157=some cx6:=by kernel_rfl
def bvm:AX.AFn:=⟨30,aS [aM 7 0,aR 8 (.nilck (.t 7)),aF 9 0 8,aL 10 9,aM 11 1,aR 12 (.call 178 [.t 10,.t 11]),aM 6 12,aE 13 6 0,aE 14 6 1,aM 4 13,aM 5 14] (aS [aM 15 0,aM 16 4,aR 17 (.nilck (.t 15)),aF 18 0 17,aU (.store 1 (.t 18) (.t 16))] (.reg false [aM 19 0,aM 20 0,aR 21 (.nilck (.t 20)),aF 22 1 21,aL 23 22,aM 24 23,aG 25 (.mv (.t 5)) 24 false,aG 26 (.un .not (.t 25)) 24 false,aR 27 (.pick (.t 24) (.c (.bool true)) (.t 26)),aR 28 (.nilck (.t 19)),aF 29 1 28,aU (.store 1 (.t 29) (.t 27))])),[]⟩
theorem cyy:AX.compFn Tryz.prog 159=some bvm:=by kernel_rfl
theorem ajy(s:List UInt8)(hl:s.length<=maxLen)(h:Hp):AT 29 [.str s] h (.bool (Adr.ident s)):=by
 refine pcall ?_ rfl (by simp[A.pure,A.data]) h;refine fo ?_;refine aza ti ?_;refine azg (fun mm ts h=>∃(j:Nat),mm=s.length-j/\j<=s.length/\h=⟨[],[]⟩/\Adr.idOk j s/\ts 0=.str s/\ts 6=.int .i64 (s.length:Nat)/\ts 7=.int .i64 (j:Nat)) s.length ?_ ?_
 ·exact⟨0,by omega,by omega,rfl,fun k hk=>absurd hk (Nat.not_lt_zero k),by(exact ev0 ti),by(exact ev0 ti),by(exact azv ti)⟩
 rintro mm ts h ⟨j,rfl,hjc,rfl,hok,t0,t6,t7⟩;by_cases hj:j<s.length
 ·have hlt:(j:Int)<(s.length:Int):=by omega
  have hj0:(0:Int)<=(j:Int):=by omega
  have ei:IntKind.i64.wrap ((j:Int)+1)=((j+1:Nat):Int):=by
   have hM:maxLen=9223372036854775807:=rfl;rw[wrap64 (by omega) (by omega)];omega
  obtain⟨c,hc⟩:=Ex (s.getD j 0)
  have hfl:Adr.letter c=false->j=0\/Adr.wordB c=false->Adr.ident s=false:=fun h1 h2=>Adr.ident_fail hj (by
   rw[hc];unfold Adr.first;rcases h2 with h2|h2
   ·rw[if_pos h2];exact h1
   ·split
    ·exact h1
    ·exact h2)
  have hgo:Adr.first j c=true->Adr.idOk (j+1) s:=fun h1 k hk=>by
   by_cases e:k=j
   ·rw[e,hc];exact h1
   ·exact hok k (by omega)
  have hlo:=Adr.letter_or c;have hdg:=Num.digB_int c;have hwb:Adr.wordB c=(Adr.letter c||Num.digB c):=rfl;obtain⟨x,hx⟩:∃x:Int,(c.toNat:Int)=x:=⟨_,rfl⟩;rw[hx]at hlo hdg;obtain⟨y,hy⟩:∃y:Int,bits .or .u8 x 32=y:=⟨_,rfl⟩;rw[hy]at hlo;have next:Adr.first j c=true->∃m',m'<s.length-j/\∃(j':Nat),m'=s.length-j'/\j'<=s.length/\Adr.idOk j' s/\j'=j+1:=fun h1=>⟨s.length-(j+1),by omega,j+1,rfl,by omega,hgo h1,rfl⟩
  by_cases h95:x=95
  ·have e1:(x !=95)=false:=by simp[h95]
   have hL:Adr.letter c=true:=by rw[hlo,e1];rfl
   refine aza (ai t0 (ai t6 (ai t7 (ai hlt (ai hj0 (ai hc (ai hx (ai hy (ai e1 ei))))))))) ?_;exact⟨s.length-(j+1),by omega,j+1,rfl,by omega,rfl,hgo (by unfold Adr.first;split;exact hL;rw[hwb,hL];rfl),by(exact ev0 t0),by(exact ev0 t6),by(exact ev0 ei)⟩
  have e1:(x !=95)=true:=by simp[h95]
  by_cases h97:y<97\/y>122
  rotate_left
  ·have e2:¬y<97:=by omega
   have e3:¬y>122:=by omega
   have hL:Adr.letter c=true:=by rw[hlo,e1,Yp e2,Yp e3];rfl
   refine aza (ai t0 (ai t6 (ai t7 (ai hlt (ai hj0 (ai hc (ai hx (ai hy (ai e1 (ai e2 (ai e3 ei))))))))))) ?_;exact⟨s.length-(j+1),by omega,j+1,rfl,by omega,rfl,hgo (by unfold Adr.first;split;exact hL;rw[hwb,hL];rfl),by(exact ev0 t0),by(exact ev0 t6),by(exact ev0 ei)⟩
  have hL:Adr.letter c=false:=by
   rw[hlo,e1];rcases h97 with h97|h97
   ·rw[Yg h97];rfl
   ·rw[Yg h97,Bool.or_true];rfl
  have fail:(j=0\/Adr.wordB c=false)->Adr.ident s=false:=hfl hL;have e23:y<97\/(¬y<97/\y>122):=by omega
  by_cases hz:j=0
  ·have e4:((j:Int)==0)=true:=by simp[hz]
   have hF:=fail (.inl hz);rcases e23 with e2|⟨e2,e3⟩
   ·refine aza (ai t0 (ai t6 (ai t7 (ai hlt (ai hj0 (ai hc (ai hx (ai hy (ai e1 (ai e2 e4)))))))))) ?_;exact⟨_,le_refl _,by rw[hF];rfl⟩
   ·refine aza (ai t0 (ai t6 (ai t7 (ai hlt (ai hj0 (ai hc (ai hx (ai hy (ai e1 (ai e2 (ai e3 e4))))))))))) ?_;exact⟨_,le_refl _,by rw[hF];rfl⟩
  have e4:((j:Int)==0)=false:=by simp;omega
  by_cases hd:48<=x/\x<=57
  ·have e5:¬x<48:=by omega
   have e6:¬x>57:=by omega
   have hW:Adr.wordB c=true:=by rw[hwb,hdg,Yg hd.1,Yg hd.2,hL];rfl
   have hfst:Adr.first j c=true:=by unfold Adr.first;rw[if_neg hz];exact hW
   rcases e23 with e2|⟨e2,e3⟩
   ·refine aza (ai t0 (ai t6 (ai t7 (ai hlt (ai hj0 (ai hc (ai hx (ai hy (ai e1 (ai e2 (ai e4 (ai e5 (ai e6 ei))))))))))))) ?_;exact⟨s.length-(j+1),by omega,j+1,rfl,by omega,rfl,hgo hfst,by(exact ev0 t0),by(exact ev0 t6),by(exact ev0 ei)⟩
   ·refine aza (ai t0 (ai t6 (ai t7 (ai hlt (ai hj0 (ai hc (ai hx (ai hy (ai e1 (ai e2 (ai e3 (ai e4 (ai e5 (ai e6 ei)))))))))))))) ?_;exact⟨s.length-(j+1),by omega,j+1,rfl,by omega,rfl,hgo hfst,by(exact ev0 t0),by(exact ev0 t6),by(exact ev0 ei)⟩
  ·have hD:Num.digB c=false:=by
    rw[hdg];by_cases a:48<=x
    ·rw[Yg a,Yp (by omega)];rfl
    ·rw[Yp a];rfl
   have hF:=fail (.inr (by rw[hwb,hL,hD];rfl));have e56:x<48\/(¬x<48/\x>57):=by omega
   rcases e23 with e2|⟨e2,e3⟩
   ·rcases e56 with e5|⟨e5,e6⟩
    ·refine aza (ai t0 (ai t6 (ai t7 (ai hlt (ai hj0 (ai hc (ai hx (ai hy (ai e1 (ai e2 (ai e4 e5))))))))))) ?_;exact⟨_,le_refl _,by rw[hF];rfl⟩
    ·refine aza (ai t0 (ai t6 (ai t7 (ai hlt (ai hj0 (ai hc (ai hx (ai hy (ai e1 (ai e2 (ai e4 (ai e5 e6)))))))))))) ?_;exact⟨_,le_refl _,by rw[hF];rfl⟩
   ·rcases e56 with e5|⟨e5,e6⟩
    ·refine aza (ai t0 (ai t6 (ai t7 (ai hlt (ai hj0 (ai hc (ai hx (ai hy (ai e1 (ai e2 (ai e3 (ai e4 e5)))))))))))) ?_;exact⟨_,le_refl _,by rw[hF];rfl⟩
    ·refine aza (ai t0 (ai t6 (ai t7 (ai hlt (ai hj0 (ai hc (ai hx (ai hy (ai e1 (ai e2 (ai e3 (ai e4 (ai e5 e6))))))))))))) ?_;exact⟨_,le_refl _,by rw[hF];rfl⟩
 ·have hlt:¬((j:Int)<(s.length:Int)):=by omega
  have hje:j=s.length:=by omega
  rw[hje]at hok;have hE:=Adr.ident_end hok;by_cases hn:s=[]
  ·have e1:(s != [])=false:=by simp[hn]
   rw[e1]at hE;refine aza (ai t0 (ai t6 (ai t7 (ai hlt e1)))) ?_;exact⟨_,le_refl _,by rw[hE];rfl⟩
  ·have e1:(s != [])=true:=by simp[hn]
   rw[e1]at hE;have e2:decide ((s.length:Int)<=64)=decide (s.length<=64):=decide_eq_decide.2 (by omega);refine aza (ai t0 (ai t6 (ai t7 (ai hlt e1)))) ?_;exact⟨_,le_refl _,by rw[hE];first|rfl|(rw[azk,e2];rfl)|rw[<-e2];rfl⟩
theorem dqu(s p:List UInt8)(h:Hp):AT 191 [.str s,.str p] h (.tup [.str (if Adr.begins s p then s.drop p.length else s),.bool (Adr.begins s p)]):=by
 refine pcall ?_ rfl (by simp[A.pure,A.data]) h;refine azf mixedT cy1 (by simp[bko]) ?_;dsimp only[bko];have hp:(decide (p.length<=s.length)&&s.take p.length==p)=Adr.begins s p:=by
  unfold Adr.begins;rw[YO,Zao,List.prefix_iff_eq_take,Zg,Zx,ZT];constructor
  ·rintro⟨h1,h2⟩;exact h2.symm
  ·intro h2;exact⟨by have:=congrArg List.length h2;rw[Zk]at this;omega,h2.symm⟩
 have hc:=fun h=>ax0 s p h
 rw[hp]at hc;refine aza ti ?_;refine use (hc _) ?_;cases hB:Adr.begins s p
 ·refine aza ti ?_;exact Fn rfl
 ·have hle:(p.length:Int)<=(s.length:Int):=by have:=Adr.begins_len hB;omega
  have h0:(0:Int)<=(p.length:Int):=by omega
  refine aza (ai hle h0) ?_;refine⟨_,le_refl _,?_⟩;rw[if_pos rfl];first|rfl|(rw[aqh];simp)
theorem cw8(s p:List UInt8)(h:Hp):AT 178 [.str s,.str p] h (.tup [.str (if Adr.begins s p then s.drop p.length else s),.bool (Adr.begins s p)]):=by
 refine pcall ?_ rfl (by simp[A.pure,A.data]) h;refine azf mixedT djn (by simp[cxs]) ?_;dsimp only[cxs];refine aza ti ?_;refine use (dqu s p _) ?_;refine aza ti ?_;exact Fn rfl
def adB(r:Adr.Rd):Blk:=.cells 207 [.str r.rest,.bool r.bad]
theorem axi(r:Adr.Rd):(adB r).loc 0:=rfl
theorem ckg(p:List UInt8)(r:Adr.Rd){h:Hp}{i:Nat}(hb:h.b[i]?=some (adB r)):
  AC 157 [.ptr i 0,.str p] h fun v h'=>v=.bool (Adr.hasP p r).1/\h'=⟨h.b.set i (adB (Adr.hasP p r).2),h.t⟩:=by
 have key:AC 157 [.ptr 0 0,.str p] ⟨[adB r],[]⟩ fun v h'=>∃b',h'.b[0]?=some b'/\v=.bool (Adr.hasP p r).1/\b'=adB (Adr.hasP p r).2:=by
  refine azf mixedT djg (by simp[cx6]) ?_;dsimp only[cx6];unfold adB;refine aza ti ?_;refine use (cw8 r.rest p _) ?_;unfold Adr.hasP;cases hB:Adr.begins r.rest p
  ·refine aza ti ?_;exact⟨_,le_refl _,_,rfl,rfl,rfl⟩
  ·refine aza ti ?_;exact⟨_,le_refl _,_,rfl,rfl,rfl⟩
 refine(ACall.lift1 key rfl (axi r) ?_ hb).mono ?_
 ·rintro v b' ⟨rfl,rfl⟩;exact⟨rfl,axi _⟩
 ·rintro v h' ⟨b',⟨rfl,rfl⟩,rfl⟩;exact⟨rfl,rfl⟩
theorem cz9(p:List UInt8)(r:Adr.Rd){h:Hp}{i:Nat}(hb:h.b[i]?=some (adB r)):
  AC 159 [.ptr i 0,.str p] h fun v h'=>v=.tup []/\h'=⟨h.b.set i (adB (Adr.skipP p r)),h.t⟩:=by
 have key:AC 159 [.ptr 0 0,.str p] ⟨[adB r],[]⟩ fun v h'=>∃b',h'.b[0]?=some b'/\v=.tup []/\b'=adB (Adr.skipP p r):=by
  obtain⟨rest,bad⟩:=r;refine azf mixedT cyy (by simp[bvm]) ?_;dsimp only[bvm];unfold adB;refine aza ti ?_;refine use (cw8 rest p _) ?_;unfold Adr.skipP;dsimp only;cases hB:Adr.begins rest p
  ·cases bad
   ·refine aza ti ?_;exact⟨_,le_refl _,_,rfl,rfl,rfl⟩
   ·refine aza ti ?_;exact⟨_,le_refl _,_,rfl,rfl,rfl⟩
  ·cases bad
   ·refine aza ti ?_;exact⟨_,le_refl _,_,rfl,rfl,rfl⟩
   ·refine aza ti ?_;exact⟨_,le_refl _,_,rfl,rfl,rfl⟩
 refine(ACall.lift1 key rfl (axi r) ?_ hb).mono ?_
 ·rintro v b' ⟨rfl,rfl⟩;exact⟨rfl,axi _⟩
 ·rintro v h' ⟨b',⟨rfl,rfl⟩,rfl⟩;exact⟨rfl,rfl⟩
end AX
end
section
open Go.RowKit
open Go.Op (bytesLess)
namespace Adr
theorem indexAny_word:∀s:List UInt8,(Lib.indexAny s [46,91]=-1/\s.takeWhile (fun c=>!stopB c)=s/\s.dropWhile (fun c=>!stopB c)=[]) \/
  ∃n:Nat,Lib.indexAny s [46,91]=n/\n<=s.length/\s.takeWhile (fun c=>!stopB c)=s.take n/\s.dropWhile (fun c=>!stopB c)=s.drop n
 |[]=> .inl ⟨rfl,rfl,rfl⟩
 |c::s=>by
  have hc:([46,91]:List UInt8).contains c=stopB c:=by
   unfold stopB;simp;rfl
  unfold Lib.indexAny;rw[hc];cases h:stopB c
  ·rcases indexAny_word s with⟨h1,h2,h3⟩|⟨n,h1,h2,h3,h4⟩
   ·refine .inl ⟨by rw[h1];rfl,?_,?_⟩
    ·rw[YC (by simp[h]),h2]
    ·rw[YX (by simp[h]),h3]
   ·refine .inr ⟨n+1,?_,by simpa using h2,?_,?_⟩
    ·rw[h1];have e:((n:Int) == -1)=false:=by simp<;>omega
     simp only[Zn,if_false,e];omega
    ·rw[YC (by simp[h]),h3,Yd]
    ·rw[YX (by simp[h]),h4,Z4]
  ·refine .inr ⟨0,rfl,ZB _,?_,?_⟩
   ·rw[YY (by simp[h])];rfl
   ·rw[Y8 (by simp[h])];rfl
theorem indexByte_key:∀s:List UInt8,(s.all (· != 93)=true/\Lib.indexByte s 93=-1)\/(s.all (· != 93)=false/\Lib.indexByte s 93=((s.takeWhile (· != 93)).length:Nat)/\(s.takeWhile (· != 93)).length<=s.length)
 |[]=> .inl ⟨rfl,rfl⟩
 |c::s=>by
  unfold Lib.indexByte;by_cases h:c=93
  ·subst h;refine .inr ⟨by simp,?_,Nat.le_of_lt_succ (by simp)⟩;simp
  ·have hb:(c==93)=false:=by simp[h]
   have hn:(c !=93)=true:=by simp[h]
   rcases indexByte_key s with⟨h1,h2⟩|⟨h1,h2,h3⟩
   ·refine .inl ⟨by rw[ZK,hn,h1];rfl,?_⟩;simp[hb,h,h2]
   ·refine .inr ⟨by rw[ZK,h1,Zad],?_,?_⟩
    ·simp only[List.takeWhile_cons,hn,if_true,Zf,hb,Zn,if_false,h2];have e:(((s.takeWhile (· != 93)).length:Nat):Int) == -1↔False:=by simp<;>omega
     rw[if_neg (by rw[e];exact id)];omega
    ·simp only[List.takeWhile_cons,hn,if_true,Zf];omega
theorem cmp_bytes:∀a b:List UInt8,Lib.compareBytes a b=AX.cmpZ a b
 |[],[]=>rfl
 |[],_::_=>rfl
 |_::_,[]=>rfl
 |a::a1,b::b1=>by
  have ih:=cmp_bytes a1 b1;unfold AX.cmpZ at ih⊢;unfold Lib.compareBytes bytesLess;by_cases h1:a<b
  ·have hne:a≠b:=by intro e;subst e;exact absurd h1 (by simp)
   simp[h1,hne]
  ·by_cases h2:b<a
   ·have hne:a≠b:=by intro e;subst e;exact absurd h2 (by simp)
    simp[h1,h2,hne]
   ·have he:a=b:=by
     have h3:¬a.toNat<b.toNat:=h1;have h4:¬b.toNat<a.toNat:=h2;exact YG.1 (by omega)
    subst he;rw[if_neg h1,if_neg h2,ih];simp
end Adr
namespace AX
theorem dx0(a b:List UInt8)(h:Hp):AT 58 [.str a,.str b] h (.int .i64 (cmpZ a b)):=by
 rw[<-Adr.cmp_bytes];exact azu (cza axh axh) (fun w hg=>(Tryz.strings_Compare ⟨a.toArray⟩ ⟨b.toArray⟩ w).mono fun e w' ⟨h1,h2⟩=>⟨h1,by rw[h2];exact Below.refl _ _⟩) (fun C=>rep_int.2 rfl) h
theorem byq(s:List UInt8)(hs:s.length<=2000000)(h:Hp):AT 179 [.str s,.str [46,91]] h (.int .i64 (Lib.indexAny s [46,91])):=
 azu (cza axh axh) (fun w hg=>bxv ⟨s.toArray⟩ (by rw[size_mk];omega) w) (fun C=>rep_int.2 rfl) h
theorem bvn(s:List UInt8)(h:Hp):AT 182 [.str s,.int .u8 93] h (.int .i64 (Lib.indexByte s 93)):=
 azu (cza axh by1) (fun w hg=>(Tryz.strings_IndexByte ⟨s.toArray⟩ 93 w).mono fun e w' ⟨h1,h2⟩=>⟨h1,by rw[h2];exact Below.refl _ _⟩) (fun C=>rep_int.2 rfl) h
theorem cyf(s:List UInt8)(hs:s.length<=2000000)(h:Hp):AT 162 [.str s] h (.bool (Adr.kindB s)):=by
 refine pcall ?_ rfl (by simp[A.pure,A.data]) h;refine fo ?_;have hi:=fun h=>ajy s (Zr hs (by decide)) h
 have hk:Adr.kindB s=(!Adr.reserved s&&Adr.ident s):=rfl;have hr:∀{G:Prop} (w:List UInt8),((s==w)=true->G)->((s==w)=false->G)->G:=fun w p q=>by
  cases e:s==w
  ·exact q e
  ·exact p e
 have res:∀w,(s==w)=true->w∈Adr.reservedL->Adr.kindB s=false:=fun w e hw=>by
  rw[ZT]at e;subst e;rw[hk];unfold Adr.reserved;rw[Zak.2 hw];rfl
 refine hr [109,111,100,117,108,101] (fun e1=>?_) fun e1=>?_
 ·refine aza e1 ?_;exact⟨_,le_refl _,by rw[res _ e1 (by decide)];rfl⟩
 refine hr [100,97,116,97] (fun e2=>?_) fun e2=>?_
 ·refine aza (ai e1 e2) ?_;exact⟨_,le_refl _,by rw[res _ e2 (by decide)];rfl⟩
 refine hr [118,97,114] (fun e3=>?_) fun e3=>?_
 ·refine aza (ai e1 (ai e2 e3)) ?_;exact⟨_,le_refl _,by rw[res _ e3 (by decide)];rfl⟩
 refine hr [108,111,99,97,108] (fun e4=>?_) fun e4=>?_
 ·refine aza (ai e1 (ai e2 (ai e3 e4))) ?_;exact⟨_,le_refl _,by rw[res _ e4 (by decide)];rfl⟩
 refine hr [101,97,99,104] (fun e5=>?_) fun e5=>?_
 ·refine aza (ai e1 (ai e2 (ai e3 (ai e4 e5)))) ?_;exact⟨_,le_refl _,by rw[res _ e5 (by decide)];rfl⟩
 refine hr [99,111,117,110,116] (fun e6=>?_) fun e6=>?_
 ·refine aza (ai e1 (ai e2 (ai e3 (ai e4 (ai e5 e6))))) ?_;exact⟨_,le_refl _,by rw[res _ e6 (by decide)];rfl⟩
 refine hr [114,101,109,111,116,101] (fun e7=>?_) fun e7=>?_
 ·refine aza (ai e1 (ai e2 (ai e3 (ai e4 (ai e5 (ai e6 e7)))))) ?_;exact⟨_,le_refl _,by rw[res _ e7 (by decide)];rfl⟩
 refine hr [111,117,116,112,117,116] (fun e8=>?_) fun e8=>?_
 ·refine aza (ai e1 (ai e2 (ai e3 (ai e4 (ai e5 (ai e6 (ai e7 e8))))))) ?_;exact⟨_,le_refl _,by rw[res _ e8 (by decide)];rfl⟩
 refine hr [112,97,116,104] (fun e9=>?_) fun e9=>?_
 ·refine aza (ai e1 (ai e2 (ai e3 (ai e4 (ai e5 (ai e6 (ai e7 (ai e8 e9)))))))) ?_;exact⟨_,le_refl _,by rw[res _ e9 (by decide)];rfl⟩
 refine hr [115,101,108,102] (fun e10=>?_) fun e10=>?_
 ·refine aza (ai e1 (ai e2 (ai e3 (ai e4 (ai e5 (ai e6 (ai e7 (ai e8 (ai e9 e10))))))))) ?_;exact⟨_,le_refl _,by rw[res _ e10 (by decide)];rfl⟩
 refine hr [99,104,97,110,103,101] (fun e11=>?_) fun e11=>?_
 ·refine aza (ai e1 (ai e2 (ai e3 (ai e4 (ai e5 (ai e6 (ai e7 (ai e8 (ai e9 (ai e10 e11)))))))))) ?_;exact⟨_,le_refl _,by rw[res _ e11 (by decide)];rfl⟩
 have hres:Adr.reserved s=false:=by
  have h1:=Zs.1 e1;have h2:=Zs.1 e2;have h3:=Zs.1 e3;have h4:=Zs.1 e4;have h5:=Zs.1 e5;have h6:=Zs.1 e6;have h7:=Zs.1 e7;have h8:=Zs.1 e8;have h9:=Zs.1 e9;have h10:=Zs.1 e10;have h11:=Zs.1 e11;unfold Adr.reserved;rw[YR];intro hc;rw[Zak]at hc;unfold Adr.reservedL at hc;simp only[ZL,List.not_mem_nil,or_false]at hc;rcases hc with e|e|e|e|e|e|e|e|e|e|e<;>simp_all
 rw[hk,hres];refine aza (ai e1 (ai e2 (ai e3 (ai e4 (ai e5 (ai e6 (ai e7 (ai e8 (ai e9 (ai e10 e11)))))))))) ?_;refine use (hi _) ?_;refine aza ti ?_;exact⟨_,le_refl _,by simp[azk]⟩
theorem cq8(r:Adr.Rd)(hl:r.rest.length<=2000000){h:Hp}{i:Nat}(hb:h.b[i]?=some (adB r)):
  AC 160 [.ptr i 0] h fun v h'=>v=.str (Adr.wordP r).1/\h'=⟨h.b.set i (adB (Adr.wordP r).2),h.t⟩:=by
 have key:AC 160 [.ptr 0 0] ⟨[adB r],[]⟩ fun v h'=>∃b',h'.b[0]?=some b'/\v=.str (Adr.wordP r).1/\b'=adB (Adr.wordP r).2:=by
  obtain⟨rest,bad⟩:=r;dsimp only at hl;refine fo ?_;unfold adB;have hW:Adr.wordP ⟨rest,bad⟩=(rest.takeWhile (fun c=>!Adr.stopB c),⟨rest.dropWhile (fun c=>!Adr.stopB c),bad||!Adr.ident (rest.takeWhile (fun c=>!Adr.stopB c))⟩):=rfl;rw[hW];have hi:=fun(s:List UInt8) (hs:s.length<=2000000) h=>ajy s (Zr hs (by decide)) h
  refine aza ti ?_;refine use (byq rest hl _) ?_;rcases Adr.indexAny_word rest with⟨h1,h2,h3⟩|⟨n,h1,h2,h3,h4⟩
  ·rw[h1,h2,h3];have lm:(-1:Int)<0:=by decide
   have l0:(0:Int)<=(rest.length:Int):=by omega
   have td:rest.drop rest.length=[]:=List.drop_length;cases bad
   ·refine aza (ai lm (ai l0 td)) ?_;refine use (hi rest hl _) ?_;refine aza ti ?_;exact⟨_,le_refl _,_,rfl,rfl,rfl⟩
   ·refine aza (ai lm (ai l0 td)) ?_;exact⟨_,le_refl _,_,rfl,rfl,rfl⟩
  ·rw[h1,h3,h4];have lm:¬(n:Int)<0:=by omega
   have l0:(0:Int)<=(n:Int):=by omega
   have l1:(n:Int)<=(rest.length:Int):=by omega
   have ht:(rest.take n).length<=2000000:=by rw[Zk];omega
   cases bad
   ·refine aza (ai lm (ai l0 l1)) ?_;refine use (hi _ ht _) ?_;refine aza ti ?_;exact⟨_,le_refl _,_,rfl,rfl,rfl⟩
   ·refine aza (ai lm (ai l0 l1)) ?_;exact⟨_,le_refl _,_,rfl,rfl,rfl⟩
 refine(ACall.lift1 key rfl (axi r) ?_ hb).mono ?_
 ·rintro v b' ⟨rfl,rfl⟩;exact⟨rfl,axi _⟩
 ·rintro v h' ⟨b',⟨rfl,rfl⟩,rfl⟩;exact⟨rfl,rfl⟩
def Adr.K.A(k:Adr.K):A:=.agg [.int .i64 k.kind,.int .i64 k.num,.str k.str]
theorem bqn(k:Adr.K)(hs:k.str.length<=2000000)(h:Hp):AT 209 [Adr.K.A k] h (.bool (Adr.keyOk k)):=by
 obtain⟨kd,nm,st⟩:=k;dsimp only at hs;unfold Adr.K.A;refine pcall ?_ rfl (by simp[A.pure,A.data]) h;refine fo ?_;have hv:=fun h=>bkf st hs h
 have hK:Adr.keyOk ⟨kd,nm,st⟩=if kd=1 then decide (0<=nm)&&decide (nm<=9007199254740992)&&st == []else if kd=2 then nm==0&&Str.valid st else(⟨kd,nm,st⟩:Adr.K)==Adr.K.none:=rfl
 rw[hK];by_cases k0:kd=0
 ·subst k0;have e0:((0:Int)==0)=true:=by decide
  rw[if_neg (by decide),if_neg (by decide)];have hn:((⟨0,nm,st⟩:Adr.K)==Adr.K.none)=(nm==0&&st == []):=by
   rw[YO,ZT,Zg,ZT,ZT];unfold Adr.K.none;simp
  refine aza e0 ?_;exact⟨_,le_refl _,by rw[hn];simp[azk]⟩
 have e0:(kd==0)=false:=by simp[k0]
 by_cases k1:kd=1
 ·subst k1;have e1:((1:Int)==1)=true:=by decide
  have e10:((1:Int)==0)=false:=by decide
  rw[if_pos rfl];by_cases n0:0<=nm
  ·have g0:nm>=0:=n0;by_cases n1:nm<=9007199254740992
   ·refine aza (ai e10 (ai e1 (ai g0 n1))) ?_;exact⟨_,le_refl _,by rw[Yg n0,Yg n1];rfl⟩
   ·refine aza (ai e10 (ai e1 (ai g0 n1))) ?_;exact⟨_,le_refl _,by rw[Yp n1,Zad];rfl⟩
  ·have g0:¬nm>=0:=n0;refine aza (ai e10 (ai e1 g0)) ?_;exact⟨_,le_refl _,by rw[Yp n0];rfl⟩
 have e1:(kd==1)=false:=by simp[k1]
 rw[if_neg k1];by_cases k2:kd=2
 ·subst k2;have e20:((2:Int)==0)=false:=by decide
  have e21:((2:Int)==1)=false:=by decide
  have e2:((2:Int)==2)=true:=by decide
  rw[if_pos rfl];cases hn:nm==0
  ·refine aza (ai e20 (ai e21 (ai e2 hn))) ?_;exact Fn rfl
  ·refine aza (ai e20 (ai e21 (ai e2 hn))) ?_;refine use (hv _) ?_;refine aza (ai e20 (ai e21 (ai e2 hn))) ?_;exact Fn rfl
 have e2:(kd==2)=false:=by simp[k2]
 rw[if_neg k2];have hn:((⟨kd,nm,st⟩:Adr.K)==Adr.K.none)=false:=by
  rw[Zs];unfold Adr.K.none;intro e;injection e with e _ _;exact k0 e
 rw[hn];refine aza (ai e0 (ai e1 e2)) ?_;exact Fn rfl
end AX
end
section
open Go.RowKit
namespace AX
structure Sto where
 key:List UInt8
 lin:List UInt8
 latest:Int
 es:List (Int×List UInt8)
 c:Nat
 own:List UInt8
 left:Int
def strM(es:List (Int×List UInt8)):List (Int×A):=es.map fun e=>(e.1,.str e.2)
def lfind(n:Int):List (Int×List UInt8)->Option (List UInt8)
 |[]=>none
 |(k,x)::l=>if n=k then some x else lfind n l
def lput(n:Int)(x:List UInt8):List (Int×List UInt8)->List (Int×List UInt8)
 |[]=>[(n,x)]
 |(k,y)::l=>if n=k then(n,x)::l else(k,y)::lput n x l
def lerase(n:Int):List (Int×List UInt8)->List (Int×List UInt8)
 |[]=>[]
 |(k,y)::l=>if n=k then l else(k,y)::lerase n l
theorem bj1(n:Int):∀es,mfind n (strM es)=(lfind n es).map A.str
 |[]=>rfl
 |(k,x)::l=>by
  show(if n=k then some (A.str x)else mfind n (strM l))=_
  unfold lfind;split
  ·rfl
  ·exact bj1 n l
theorem bwh(n:Int)(x:List UInt8):∀es,mput n (.str x) (strM es)=strM (lput n x es)
 |[]=>rfl
 |(k,y)::l=>by
  show(if n=k then(n,A.str x)::strM l else(k,.str y)::mput n (.str x) (strM l))=_
  unfold lput;split
  ·rfl
  ·rw[bwh n x l];rfl
theorem bzl(n:Int):∀es,merase n (strM es)=strM (lerase n es)
 |[]=>rfl
 |(k,y)::l=>by
  show(if n=k then strM l else(k,.str y)::merase n (strM l))=_
  unfold lerase;split
  ·rfl
  ·rw[bzl n l];rfl
def Sto.M(s:Sto):Blk:=.map (strM s.es) s.c
def Sto.B(s:Sto):Blk:=.cells 88 [.str s.key,.str s.lin,.int .i64 s.latest,.mp 0,.str s.own,.int .i64 s.left]
theorem Sto.M_loc(s:Sto):s.M.loc 2/\s.M.ren (fun i=>i)=s.M:=by
 have h:s.M.loc 0:=by
  show((strM s.es).all fun e=>e.2.loc 0)=true
  rw[ZD];intro e he;obtain⟨x,hx,rfl⟩:=ZW.1 he;rfl
 exact⟨(Blk.loc0 2 _ h).1,(Blk.loc0 0 _ h).2 _⟩
theorem liftS{P:Program}{G:World->Prop}{f:FuncId}{args:List A}{s s':Sto}{v:A}(hc:ACall P G f (.ptr 1 0::args) ⟨[s.M,s.B],[]⟩ fun v' h'=>v'=v/\h'.b[0]?=some s'.M/\h'.b[1]?=some s'.B)(ha:A.locL 0 args=true)(hv:v.loc 0=true)(l:List Blk)(t:List (TypeId×Nat×Nat)):
  ACall P G f (.ptr 1 0::args) ⟨s.M::s.B::l,t⟩ fun v' h'=>v'=v/\h'=⟨s'.M::s'.B::l,t⟩:=by
 have key:=ACall.lift hc (fun i=>i) (fun a b _ _ e=>e) (by unfold A.locL;rw[(A.locL0 _ args ha).1];rfl)
  (fun x hx=>by
   rcases ZL.1 hx with rfl|hx
   ·exact s.M_loc.1
   ·rw[ZJ.1 hx];rfl)
  (fun v' h' ⟨e,h0,h1⟩=>⟨by rw[e];exact(A.loc0 _ v hv).1,fun j x hj hx=>by
   have:j=0\/j=1:=by simp only[Zf,Zo]at hj;omega
   rcases this with rfl|rfl
   ·rw[h0]at hx;injection hx with hx;subst hx;exact s'.M_loc.1
   ·rw[h1]at hx;injection hx with hx;subst hx;rfl⟩)
  (h:=⟨s.M::s.B::l,t⟩) (fun j hj=>by
   have:j=0\/j=1:=by simp only[Zf,Zo]at hj;omega
   rcases this with rfl|rfl
   ·show some s.M=some (s.M.ren fun i=>i);rw[s.M_loc.2]
   ·rfl)
 have e:A.renL (fun i=>i) (.ptr 1 0::args)=.ptr 1 0::args:=by unfold A.renL;rw[(A.locL0 0 args ha).2];rfl
 rw[e]at key;refine key.mono ?_;rintro v' h' ⟨v0,⟨b0,t0⟩,⟨rfl,h0,h1⟩,rfl,rfl⟩;refine⟨(A.loc0 0 _ hv).2 _,?_⟩
 match b0,h0,h1 with
 |x::y::b,h0,h1=>
  simp only[ZU,ZR,Zc]at h0 h1;subst h0;subst h1;simp only[Zf,Zo,Yd,Yt,setAll,s'.M_loc.2];rfl
namespace Sto
def txt(s:List UInt8):Bool:=s != []&&Str.valid s
def lock(s:Sto)(who:List UInt8)(n:Int):Sto×Int:=
 if(txt who&&decide (1<=n)&&decide (n<=1099511627776))=false then(s,1)
 else if(s.own != []&&s.own !=who)=true then(s,24)
 else({ s with own:=who,left:=n },0)
def holds(s:Sto)(who:List UInt8):Bool:=s.own != []&&s.own==who
def unlock(s:Sto)(who:List UInt8):Sto×Int:=if s.holds who=false then(s,25)else({ s with own:=[],left:=0 },0)
def keep(s:Sto)(st:Sf.St):Sto×Int:=
 if(Sf.encode 2 st).2≠0 then(s,(Sf.encode 2 st).2)
 else if(Seal.enc s.key (IntKind.u64.wrap st.ser) (Sf.encode 2 st).1).2≠0 then(s,(Seal.enc s.key (IntKind.u64.wrap st.ser) (Sf.encode 2 st).1).2)
 else({ s with latest:=st.ser,es:=lerase (IntKind.i64.wrap (st.ser-64)) (lput st.ser (Seal.enc s.key (IntKind.u64.wrap st.ser) (Sf.encode 2 st).1).1 s.es),c:=mclock st.ser (strM s.es) s.c },0)
def write(s:Sto)(who:List UInt8)(st:Sf.St):Sto×Int:=
 if s.holds who=false then(s,25)else if st.lin≠s.lin then(s,23)else if st.ser≠IntKind.i64.wrap (s.latest+1)then(s,22)else s.keep st
def plain(s:Sto)(n:Int):List UInt8×Int:=match lfind n s.es with
 |none=>([],9)
 |some b=>Seal.dec s.key b
def at'(s:Sto)(n:Int):Sf.St×Int:=
 if(s.plain n).2≠0 then(Sf.zero,(s.plain n).2)
 else
  let d:=Sf.decode (s.plain n).1
  if d.2=0 then(d.1,Sf.checkZ d.1)else d
end Sto
end AX
end
section
open Go.RowKit
namespace AX
def bq1:AX.AFn:=⟨9,aS [aR 2 (.mv (.c (.bool false)))] (aS [aM 3 0,aR 4 (.bin .neq (.t 3) (.c (.str []))),aM 5 4,aG 6 (.mv (.t 0)) 5 true,aG 7 (.call 79 [.t 6]) 5 true,aR 8 (.pick (.t 5) (.t 7) (.c (.bool false))),aM 2 8] (.ret)),[.t 2]⟩
theorem cwj:AX.compFn Tryz.prog 54=some bq1:=by kernel_rfl
def cxu:AX.AFn:=⟨12,aS [aR 2 (.mv (.c (.bool false)))] (aS [aM 3 0,aR 4 (.eq 4 [] true (.t 3) (.c (.nilp))),aM 5 4,aG 6 (.mv (.t 0)) 5 true,aG 7 (.nilck (.t 6)) 5 true,aG 8 (.faddr 3 (.t 7)) 5 true,aG 9 (.load false 1 (.t 8)) 5 true,aG 10 (.eq 3 [] true (.t 9) (.c (.nilm))) 5 true,aR 11 (.pick (.t 5) (.t 10) (.c (.bool false))),aM 2 11] (.ret)),[.t 2]⟩
theorem djt:AX.compFn Tryz.prog 38=some cxu:=by kernel_rfl
def bkm:AX.AFn:=⟨18,aS [aR 4 (.mv (.c (.bool false)))] (aS [aM 5 0,aR 6 (.nilck (.t 5)),aF 7 4 6,aL 8 7,aR 9 (.bin .neq (.t 8) (.c (.str []))),aM 10 9,aG 11 (.mv (.t 0)) 10 true,aG 12 (.nilck (.t 11)) 10 true,aG 13 (.faddr 4 (.t 12)) 10 true,aG 14 (.load false 1 (.t 13)) 10 true,aG 15 (.mv (.t 1)) 10 true,aG 16 (.bin .eql (.t 14) (.t 15)) 10 true,aR 17 (.pick (.t 10) (.t 16) (.c (.bool false))),aM 4 17] (.ret)),[.t 4]⟩
theorem h_holds:AX.compFn Tryz.prog 61=some bkm:=by kernel_rfl
def aw5:AX.AFn:=⟨18,aS [aR 4 (.mv (aI 0))] (.seq (aS [aM 5 0,aR 6 (.call 38 [.t 5]),aR 7 (.un .not (.t 6))] (.cond (.t 7) (aS [aR 4 (.mv (aI 38))] (.ret)) (.skip))) (.seq (aS [aM 8 0,aM 9 1,aR 10 (.call 61 [.t 8,.t 9]),aR 11 (.un .not (.t 10))] (.cond (.t 11) (aS [aR 4 (.mv (aI 25))] (.ret)) (.skip))) (aS [aM 12 0,aM 13 0,aR 14 (.nilck (.t 12)),aF 15 4 14,aU (.store 1 (.t 15) (.c (.str []))),aR 16 (.nilck (.t 13)),aF 17 5 16,aU (.store 1 (.t 17) (aI 0))] (aS [aR 4 (.mv (aI 0))] (.ret))))),[.t 4]⟩
theorem cqz:AX.compFn Tryz.prog 33=some aw5:=by kernel_rfl
def bqk:AX.AFn:=⟨15,aS [aR 2 (.mv (.c (.str []))),aR 3 (.mv (aI 0))] (.seq (aS [aM 4 0,aR 5 (.call 38 [.t 4]),aR 6 (.un .not (.t 5))] (.cond (.t 6) (aS [aR 2 (.mv (.c (.str []))),aR 3 (.mv (aI 0))] (.ret)) (.skip))) (.seq (.reg true [aM 7 0,⟨some 8,.nilck (.t 7),none,[0]⟩,⟨some 9,.faddr 4 (.t 8),none,[1]⟩,⟨some 10,.load false 1 (.t 9),none,[2]⟩,aM 11 0,⟨some 12,.nilck (.t 11),none,[4]⟩,⟨some 13,.faddr 5 (.t 12),none,[5]⟩,⟨some 14,.load false 1 (.t 13),none,[6]⟩,⟨some 2,.mv (.t 10),none,[3,0,1,2,3]⟩,⟨some 3,.mv (.t 14),none,[7,8,0,1,2,3,4,5,6,7,8]⟩]) (.ret))),[.t 2,.t 3]⟩
theorem ckz:AX.compFn Tryz.prog 34=some bqk:=by kernel_rfl
theorem bz9(s:List UInt8)(hs:s.length<=2000000)(h:Hp):AT 54 [.str s] h (.bool (Sto.txt s)):=by
 refine pcall ?_ rfl (by simp[A.pure,A.data]) h;refine azf mixedT cwj (by simp[bq1]) ?_;dsimp only[bq1];unfold Sto.txt;rcases azl (s != [])with h1|h1
 ·refine go0 h1 ?_;refine gc0 h1 ?_;refine(bkf s hs _).mono ?_;rintro v h1' ⟨rfl,rfl⟩;refine go0 h1 ?_;exact⟨_,le_refl _,by rw[azk,h1];rfl⟩
 ·refine go0 h1 ?_;exact⟨_,le_refl _,by rw[azk,h1];rfl⟩
section
variable (s:Sto) (l:List Blk) (t:List (TypeId×Nat×Nat))
theorem ay9:AT 38 [.ptr 1 0] ⟨s.M::s.B::l,t⟩ (.bool true):=by
 refine liftS (s':=s) ?_ rfl rfl l t;refine azf mixedT djt (by simp[cxu]) ?_;dsimp only[cxu];unfold Sto.B;refine aza ti ?_;exact⟨_,le_refl _,rfl,rfl,rfl⟩
theorem cqi(who:List UInt8):AT 61 [.ptr 1 0,.str who] ⟨s.M::s.B::l,t⟩ (.bool (s.holds who)):=by
 refine liftS (s':=s) ?_ rfl rfl l t;refine azf mixedT h_holds (by simp[bkm]) ?_;dsimp only[bkm];unfold Sto.B Sto.holds;rcases azl (s.own != [])with h1|h1
 ·refine aza h1 ?_;exact⟨_,le_refl _,by rw[h1];rfl,rfl,rfl⟩
 ·refine aza h1 ?_;exact⟨_,le_refl _,by rw[h1];rfl,rfl,rfl⟩
theorem cww:AT 34 [.ptr 1 0] ⟨s.M::s.B::l,t⟩ (.tup [.str s.own,.int .i64 s.left]):=by
 refine liftS (s':=s) ?_ rfl rfl l t;refine azf mixedT ckz (by simp[bqk]) ?_;dsimp only[bqk];have hm:=ay9 s;unfold Sto.B at hm⊢;refine aza ti ?_;refine use (hm _ _) ?_;refine aza ti ?_;exact⟨_,le_refl _,rfl,rfl,rfl⟩
theorem dxh(who:List UInt8)(hw:who.length<=2000000)(n:Int):AC 32 [.ptr 1 0,.str who,.int .i64 n] ⟨s.M::s.B::l,t⟩ fun r h'=>r=.int .i64 (s.lock who n).2/\h'=⟨(s.lock who n).1.M::(s.lock who n).1.B::l,t⟩:=by
 refine liftS (s':=(s.lock who n).1) ?_ rfl rfl l t;refine fo ?_;obtain⟨q,hq⟩:=Ex (s.lock who n);rw[hq];unfold Sto.lock at hq;have hm:=ay9 s;unfold Sto.B at hm⊢;refine aza ti ?_;refine use (hm _ _) ?_;refine aza ti ?_;refine use (bz9 who hw _) ?_;cases hT:Sto.txt who
 ·rw[hT,if_pos (by simp)]at hq;subst hq;refine aza ti ?_;exact⟨_,le_refl _,rfl,rfl,rfl⟩
 by_cases h1:n<1
 ·rw[hT,if_pos (by simp;omega)]at hq;subst hq;refine aza h1 ?_;exact⟨_,le_refl _,rfl,rfl,rfl⟩
 by_cases h2:n>1099511627776
 ·rw[hT,if_pos (by simp;omega)]at hq;subst hq;refine aza (ai h1 h2) ?_;exact⟨_,le_refl _,rfl,rfl,rfl⟩
 rw[hT,if_neg (by simp;omega)]at hq;rcases azl (s.own != [])with h3|h3
 ·rcases azl (s.own !=who)with h4|h4
  ·rw[h3,h4,if_pos (by decide)]at hq;subst hq;refine aza (ai h1 (ai h2 (ai h3 h4))) ?_;exact⟨_,le_refl _,rfl,rfl,rfl⟩
  ·rw[h3,h4,if_neg (by decide)]at hq;subst hq;refine aza (ai h1 (ai h2 (ai h3 h4))) ?_;exact⟨_,le_refl _,rfl,rfl,rfl⟩
 ·rw[h3,if_neg (by simp)]at hq;subst hq;refine aza (ai h1 (ai h2 h3)) ?_;exact⟨_,le_refl _,rfl,rfl,rfl⟩
theorem cki(who:List UInt8):AC 33 [.ptr 1 0,.str who] ⟨s.M::s.B::l,t⟩ fun r h'=>r=.int .i64 (s.unlock who).2/\h'=⟨(s.unlock who).1.M::(s.unlock who).1.B::l,t⟩:=by
 refine liftS (s':=(s.unlock who).1) ?_ rfl rfl l t;refine azf mixedT cqz (by simp[aw5]) ?_;dsimp only[aw5];obtain⟨q,hq⟩:=Ex (s.unlock who);rw[hq];unfold Sto.unlock at hq;have hm:=ay9 s;have hh:=fun l t=>cqi s l t who
 unfold Sto.B at hm hh⊢;refine aza ti ?_;refine use (hm _ _) ?_;refine aza ti ?_;refine use (hh _ _) ?_;cases hT:s.holds who
 ·rw[hT,if_pos (by simp)]at hq;subst hq;refine aza ti ?_;exact⟨_,le_refl _,rfl,rfl,rfl⟩
 ·rw[hT,if_neg (by decide)]at hq;subst hq;refine aza ti ?_;exact⟨_,le_refl _,rfl,rfl,rfl⟩
end
end AX
end
section
open Go.RowKit
namespace Str
theorem one_width(l:List UInt8)(hl:l≠[])(h:(one l).2.2=0):(one l).2.1<=l.length:=by
 have hp:=YA.2 hl;by_cases h92:l.getD 0 0=92
 ·obtain⟨⟨c,n,e⟩,he⟩:=Ex (escp (l.drop 1));have h1:=one_esc l h92 c n e he;rw[h1]at h⊢;by_cases h0:e=0
  ·rw[if_neg (by simp[h0])];have:=escp_len (l.drop 1) (by rw[he];exact h0);rw[he,ZC]at this;dsimp only at this⊢;omega
  ·rw[if_pos h0]at h;exact absurd h h0
 ·obtain⟨⟨c,n⟩,hd⟩:=Ex (Lib.decodeL l);have hc:c≠92:=by
   rcases dec_cases l with⟨q1,q2⟩|⟨q1,q2⟩
   ·rw[hd]at q2;injection q2 with q2 q3;intro e;apply h92;rw[<-YG];have:(l.getD 0 0).toNat=92:=by omega
    simpa using this
   ·rw[hd]at q2;dsimp only at q2;omega
  by_cases hbad:(c=65533/\n=1)\/c<32\/c=127
  ·rw[one_bad l c n hd hc hbad]at h;simp at h
  ·rw[one_ok l hl c n hd hc hbad];have:=Lib.decodeL_le l hl;rw[hd]at this;exact this
theorem unq_width:∀(f:Nat) (l acc:List UInt8) (i N:Nat),i+l.length=N->(unq f l acc i).2.2=0->(unq f l acc i).2.1<=N
 |0,l,acc,i,N,hN,h=>by
  unfold unq at h⊢;simp at h⊢
 |f+1,l,acc,i,N,hN,h=>by
  unfold unq at h⊢;split
  ·next h1=>rw[if_pos h1]at h;simp at h
  ·next h1=>
   rw[if_neg h1]at h;have hp:=YA.2 h1;split
   ·next h2=>
    rw[if_pos h2]at h;split
    ·exact ZB _
    ·dsimp only;omega
   ·next h2=>
    rw[if_neg h2]at h;split
    ·exact ZB _
    ·next h3=>
     rw[if_neg h3]at h;have:=one_width l h1 (by simpa using h3);exact unq_width f _ _ _ N (by rw[ZC];omega) h
theorem unquote_width(l:List UInt8)(h:(unquote l).2.2=0):(unquote l).2.1<=l.length:=by
 unfold unquote at h⊢;split
 ·exact ZB _
 ·next h1=>
  rw[if_neg h1]at h;split
  ·exact ZB _
  ·next h2=>
   rw[if_neg h2]at h;have hp:=YA.2 h1;exact unq_width _ _ _ _ l.length (by rw[ZC];omega) h
end Str
namespace AX
def bvo:AX.AFn:=⟨11,aS [aR 2 (.alloc 209 [.str [],.int .i64 0,.int .i64 0,.str []])] (aS [aM 4 0,aR 5 (.call 160 [.t 4]),aR 6 (.build [.str [],.int .i64 0,.int .i64 0,.str []] [(0,1,.t 5)]),aR 3 (.alloc 209 [.str [],.int .i64 0,.int .i64 0,.str []]),aU (.store 4 (.t 3) (.t 6))] (aS [aM 7 0,aR 8 (.call 161 [.t 7]),aF 9 1 3,aU (.store 3 (.t 9) (.t 8))] (aS [aR 10 (.load true 4 (.t 3)),aU (.store 4 (.t 2) (.t 10))] (.ret)))),[.c 2 true 4]⟩
theorem dz7:AX.compFn Tryz.prog 158=some bvo:=by kernel_rfl
theorem czu{w:World}(g:GT w):Glob w:=⟨g.tabs,g.tz⟩
theorem czy(s:List UInt8)(hs:s.length<=2000000)(h:Hp):AT 180 [.str s] h (.tup [.str (Str.unquote s).1,.int .i64 (Str.unquote s).2.1,.int .i64 (Str.unquote s).2.2]):=
 azu (aj3 axh) (fun w hg=>bv6 ⟨s.toArray⟩ w (by rw[size_mk];exact hs) (czu hg)) (fun C=>rep_tup.2 ⟨_,rfl,repL_cons.2 ⟨_,_,rfl,rep_str.2 rfl,repL_cons.2 ⟨_,_,rfl,rep_int.2 rfl,repL_cons.2 ⟨_,_,rfl,rep_int.2 rfl,azp.2 rfl⟩⟩⟩⟩) h
theorem dqd(s:List UInt8)(hs:s.length<=2000000)(h:Hp):AT 181 [.str s] h (.str (Str.quote s)):=
 azu (aj3 axh) (fun w hg=>cjt ⟨s.toArray⟩ w (by rw[size_mk];exact hs) (czu hg)) (fun C=>rep_str.2 rfl) h
theorem byd(s p:List UInt8):(decide (p.length<=s.length)&&s.take p.length==p)=Adr.begins s p:=by
 unfold Adr.begins;rw[YO,Zao,List.prefix_iff_eq_take,Zg,Zx,ZT];constructor
 ·rintro⟨h1,h2⟩;exact h2.symm
 ·intro h2;exact⟨by have:=congrArg List.length h2;rw[Zk]at this;omega,h2.symm⟩
theorem dxg(r:Adr.Rd)(hl:r.rest.length<=2000000){h:Hp}{i:Nat}(hb:h.b[i]?=some (adB r)):
  AC 161 [.ptr i 0] h fun v h'=>v=Adr.K.A (Adr.keyP r).1/\h'=⟨h.b.set i (adB (Adr.keyP r).2),h.t⟩:=by
 have key:AC 161 [.ptr 0 0] ⟨[adB r],[]⟩ fun v h'=>∃b',h'.b[0]?=some b'/\v=Adr.K.A (Adr.keyP r).1/\b'=adB (Adr.keyP r).2:=by
  refine fo ?_;have hh:=fun h hb=>ckg [91] r (h:=h) (i:=0) hb
  obtain⟨Z,hZ⟩:=Ex (Adr.keyP r);rw[hZ];unfold Adr.keyP at hZ;unfold Adr.hasP at hh;unfold adB at hh⊢;obtain⟨rest,bad⟩:=r;dsimp only at hl hh hZ;cases bad;rotate_left
  ·rw[if_pos rfl]at hZ;subst hZ;refine aza ti ?_;exact⟨_,le_refl _,_,rfl,rfl,rfl⟩
  rw[if_neg (by decide)]at hZ;refine aza ti ?_;refine use (hh _ rfl) ?_;cases hB:Adr.begins rest [91]
  ·rw[hB,if_pos rfl]at hZ;subst hZ;refine aza ti ?_;exact⟨_,le_refl _,_,rfl,rfl,rfl⟩
  rw[hB,if_neg (by decide)]at hZ;obtain⟨t,ht⟩:=Ex (rest.drop 1);have ht1:rest.drop [91].length=t:=ht;have htl:t.length<=2000000:=by rw[<-ht,ZC];omega
  rw[ht]at hZ;have hp:=fun h=>ajv t [34] h
  rw[byd]at hp;have hu:=fun h=>czy t htl h
  have hsk:=fun(q:Adr.Rd) h hb=>cz9 [93] q (h:=h) (i:=0) hb
  unfold adB at hsk;refine aza (ai ht1 ht) ?_;refine use (hp _) ?_;cases hQ:Adr.begins t [34]
  ·rw[hQ,if_neg (by decide)]at hZ;refine aza ti ?_;refine use (bvn t _) ?_;have hk:=Adr.indexByte_key t;obtain⟨n,hn,hnle,hix⟩:∃n:Nat,(if t.all (· != 93)then 0 else(t.takeWhile (· != 93)).length)=n/\n<=t.length/\(Lib.indexByte t 93=(n:Int)\/(Lib.indexByte t 93=-1/\n=0)):=by
    rcases hk with⟨k1,k2⟩|⟨k1,k2,k3⟩
    ·exact⟨0,by rw[if_pos k1],ZB _,.inr ⟨k2,rfl⟩⟩
    ·exact⟨_,by rw[k1,if_neg (by decide)],k3,.inl k2⟩
   rw[hn]at hZ;have hmax:(if(0:Int)>Lib.indexByte t 93 then 0 else Lib.indexByte t 93)=(n:Int):=by
    rcases hix with e|⟨e,e2⟩
    ·rw[e,if_neg (by omega)]
    ·rw[e,e2];rfl
   have htk:(t.take n).length<=2000000:=by rw[Zk];omega
   have hnp:=fun h=>a_numParse (t.take n) htk h
   have l0:(0:Int)<=(n:Int):=by omega
   have l1:(n:Int)<=(t.length:Int):=by omega
   obtain⟨⟨x,e⟩,hx⟩:=Ex (Num.parse (t.take n));rw[hx]at hnp hZ;dsimp only at hnp hZ;refine aza (ai hmax (ai l0 l1)) ?_;refine use (hnp _) ?_;have hbad:=Ex ((e !=0||decide (x<0)));obtain⟨b,hb⟩:=hbad;rw[hb]at hZ;subst hZ;by_cases he:e=0
   ·have e1:(e !=0)=false:=by simp[he]
    rw[e1,YF]at hb;refine aza (ai e1 (ai hb (ai l0 l1))) ?_;refine use (hsk ⟨t.drop n,b⟩ _ rfl) ?_;refine aza ti ?_;exact⟨_,le_refl _,_,rfl,rfl,rfl⟩
   ·have e1:(e !=0)=true:=by simp[he]
    rw[e1,Zaa]at hb;subst hb;refine aza (ai e1 (ai l0 l1)) ?_;refine use (hsk ⟨t.drop n,true⟩ _ rfl) ?_;refine aza ti ?_;exact⟨_,le_refl _,_,rfl,rfl,rfl⟩
  ·rw[hQ,if_pos rfl]at hZ;refine aza ti ?_;refine use (hu _) ?_;have hw:=Str.unquote_width t;have hv:=Str.unquote_valid t;obtain⟨⟨us,un,ue⟩,hue⟩:=Ex (Str.unquote t);rw[hue]at hZ hw hv⊢;dsimp only at hZ hw hv⊢;by_cases he:ue=0
   rotate_left
   ·have e1:(ue !=0)=true:=by simp[he]
    rw[if_pos (.inl he)]at hZ;subst hZ;refine aza e1 ?_;exact⟨_,le_refl _,_,rfl,rfl,rfl⟩
   have e1:(ue !=0)=false:=by simp[he]
   have hul:us.length<=2000000:=by
    have:=hv he;unfold Str.valid at this;rw[Zg,Zx]at this;omega
   have l1:(un:Int)<=(t.length:Int):=by have:=hw he;omega
   have l0:(0:Int)<=(un:Int):=by omega
   refine aza (ai e1 (ai l0 l1)) ?_;refine use (dqd us hul _) ?_;cases hne:Str.quote us !=t.take un
   ·rw[if_neg (by rintro(h|h);exact h he;rw[bne_eq_false_iff_eq]at hne;exact h hne)]at hZ;subst hZ;refine aza (ai e1 (ai hne (ai l0 l1))) ?_;refine use (hsk ⟨t.drop un,false⟩ _ rfl) ?_;refine aza ti ?_;exact⟨_,le_refl _,_,rfl,rfl,rfl⟩
   ·rw[if_pos (.inr (Y2.1 hne))]at hZ;subst hZ;refine aza (ai e1 (ai hne (ai l0 l1))) ?_;exact⟨_,le_refl _,_,rfl,rfl,rfl⟩
 refine(ACall.lift1 key rfl (axi r) ?_ hb).mono ?_
 ·rintro v b' ⟨rfl,rfl⟩;exact⟨rfl,axi _⟩
 ·rintro v h' ⟨b',⟨rfl,rfl⟩,rfl⟩;exact⟨rfl,rfl⟩
end AX
namespace Adr
theorem has_len(p:List UInt8)(r:Rd):(hasP p r).2.rest.length<=r.rest.length:=by
 unfold hasP;split
 ·rw[ZC];omega
 ·exact Ze _
theorem has_less(p:List UInt8)(r:Rd)(h:begins r.rest p=true):(hasP p r).2.rest.length+p.length=r.rest.length:=by
 have:=begins_len h;unfold hasP;rw[if_pos h];dsimp only;rw[ZC];omega
theorem takeW_len{p:UInt8->Bool}(s:List UInt8):(s.takeWhile p).length<=s.length:=List.Sublist.length_le (List.takeWhile_sublist p)
theorem dropW_len{p:UInt8->Bool}(s:List UInt8):(s.dropWhile p).length<=s.length:=List.Sublist.length_le (List.dropWhile_sublist p)
theorem word_len(r:Rd):(wordP r).2.rest.length<=r.rest.length/\(wordP r).1.length<=r.rest.length:=⟨dropW_len _,takeW_len _⟩
theorem skip_len(p:List UInt8)(r:Rd):(skipP p r).rest.length<=r.rest.length:=by
 unfold skipP;split
 ·dsimp only;rw[ZC];omega
 ·exact Ze _
theorem key_len(r:Rd):(keyP r).2.rest.length<=r.rest.length:=by
 unfold keyP;split
 ·exact Ze _
 ·split
  ·exact Ze _
  ·dsimp only;split
   ·split
    ·dsimp only;rw[ZC];omega
    ·refine Zr (skip_len _ _) ?_;dsimp only;rw[ZC,ZC];omega
   ·refine Zr (skip_len _ _) ?_;dsimp only;rw[ZC,ZC];omega
theorem step_len(r:Rd):(stepP r).2.rest.length<=r.rest.length:=Zr (key_len _) (word_len r).1
end Adr
namespace AX
theorem dxu(r:Adr.Rd)(hl:r.rest.length<=2000000){h:Hp}{i:Nat}(hb:h.b[i]?=some (adB r)):
  AC 158 [.ptr i 0] h fun v h'=>v=.agg (Adr.stepP r).1.cells/\h'=⟨h.b.set i (adB (Adr.stepP r).2),h.t⟩:=by
 have key:AC 158 [.ptr 0 0] ⟨[adB r],[]⟩ fun v h'=>∃b',h'.b[0]?=some b'/\v=.agg (Adr.stepP r).1.cells/\b'=adB (Adr.stepP r).2:=by
  refine azf mixedT dz7 (by simp[bvo]) ?_;dsimp only[bvo];have hw:=fun h hb=>cq8 r hl (h:=h) (i:=0) hb
  have hk:=fun h hb=>dxg (Adr.wordP r).2 (Zr (Adr.word_len r).1 hl) (h:=h) (i:=0) hb
  have hS:Adr.stepP r=(⟨(Adr.wordP r).1,(Adr.keyP (Adr.wordP r).2).1⟩,(Adr.keyP (Adr.wordP r).2).2):=rfl;rw[hS];obtain⟨⟨w,r1⟩,h1⟩:=Ex (Adr.wordP r);rw[h1]at hw hk⊢;dsimp only at hw hk⊢;obtain⟨⟨⟨kd,kn,ks⟩,r2⟩,h2⟩:=Ex (Adr.keyP r1);rw[h2]at hk⊢;dsimp only[Adr.K.A]at hk⊢;unfold adB at hw hk⊢;refine aza ti ?_;refine use (hw _ rfl) ?_;refine aza ti ?_;refine use (hk _ rfl) ?_;refine aza ti ?_;exact⟨_,le_refl _,_,rfl,rfl,rfl⟩
 refine(ACall.lift1 key rfl (axi r) ?_ hb).mono ?_
 ·rintro v b' ⟨rfl,rfl⟩;exact⟨rfl,axi _⟩
 ·rintro v h' ⟨b',⟨rfl,rfl⟩,rfl⟩;exact⟨rfl,rfl⟩
theorem cj2(s:List UInt8)(hs:s.length<=2000000)(h:Hp):AT 136 [.str s] h (.tup [.agg (Adr.parse s).1.cells,.int .i64 (Adr.parse s).2]):=by
 rw[<-Adr.parse_eq];refine pcall ?_ rfl (by simp[A.pure,A.data]) h;refine fo ?_;obtain⟨⟨M,RM⟩,hM⟩:=Ex (Adr.modsP (s.length+1) ⟨s,false⟩ []);obtain⟨F,hF⟩:=Ex (Adr.parseP s);rw[hF];unfold Adr.parseP at hF;rw[hM]at hF;dsimp only at hF;refine aza ti ?_
 refine azg (fun mm ts h=>∃(r:Adr.Rd) (l:List Adr.Step) (W:Nat) (o:Own) (t:List (TypeId×Nat×Nat)),r.rest.length<mm/\mm+l.length=s.length+1/\Adr.modsP mm r l=(M,RM) /\
  h=⟨[.cells 180 [.sl 0 .nil [],.bool false,.str [],.str [],.int .i64 0,.int .i64 0,.str []],.cells 207 [.str r.rest,.bool r.bad],.cells 180 [.sl W o (l.map Adr.Step.cells),.bool false,.str [],.str [],.int .i64 0,.int .i64 0,.str []]],t⟩ /\
  Gs 209 4 0 ⟨[],t⟩ (l.map Adr.Step.cells) (.sl W o (l.map Adr.Step.cells))/\ts 2=.ptr 0 0/\ts 3=.int .i64 0/\ts 4=.ptr 1 0/\ts 5=.ptr 2 0) (s.length+1) ?_ ?_
 ·exact⟨⟨s,false⟩,[],0,.nil,[],by dsimp only;omega,by simp,hM,rfl,.inl ⟨rfl,rfl⟩,by(exact ev0 ti),by(exact ev0 ti),by(exact ev0 ti),by(exact ev0 ti)⟩
 rintro mm ts h ⟨r,l,W,o,t,hrm,hml,hmod,rfl,gX,t2,t3,t4,t5⟩;cases mm with
 |zero=>omega
 |succ f=>
 unfold Adr.modsP at hmod;by_cases hgo:r.bad=false/\Adr.begins r.rest Adr.modW=true
 ·rw[if_pos hgo]at hmod;have hmw:Adr.modW=[109,111,100,117,108,101,46]:=rfl;have cH:=fun h hb=>ckg Adr.modW r (h:=h) (i:=1) hb
  have l1:=Adr.has_less Adr.modW r hgo.2;have hh1:(Adr.hasP Adr.modW r).1=true:=by unfold Adr.hasP;rw[if_pos hgo.2]
  rw[hh1]at cH;have l7:Adr.modW.length=7:=rfl;have hr0:r.bad=false:=hgo.1;obtain⟨r1,hr1⟩:=Ex ((Adr.hasP Adr.modW r).2);rw[hr1]at cH l1 hmod;have cS:=fun h hb=>dxu r1 (by omega) (h:=h) (i:=1) hb
  have l2:=Adr.step_len r1;obtain⟨⟨⟨nm,⟨kd,kn,ks⟩⟩,r2⟩,hr2⟩:=Ex (Adr.stepP r1);rw[hr2]at cS l2 hmod;dsimp only[Adr.Step.cells]at cS l2 hmod;have cK:=fun h hb=>cz9 [46] r2 (h:=h) (i:=1) hb
  have l3:=Adr.skip_len [46] r2;obtain⟨r3,hr3⟩:=Ex (Adr.skipP [46] r2);rw[hr3]at cK l3 hmod;unfold adB at cH cS cK;rw[hmw]at cH;rw[hr0]at cH;obtain⟨W',o',t',hX,gX',_⟩:=gX.grow 48 [.str nm,.int .i64 kd,.int .i64 kn,.str ks] (by rw[Zh];omega) (by decide);have hcat:l.map Adr.Step.cells++[[.str nm,.int .i64 kd,.int .i64 kn,.str ks]]=(l++[(⟨nm,⟨kd,kn,ks⟩⟩:Adr.Step)]).map Adr.Step.cells:=by rw[Z6];rfl
  rw[hcat]at gX';simp only[hcat]at hX;rw[hr0];refine aza (ai t2 (ai t3 (ai t4 t5))) ?_;refine use (cH _ rfl) ?_;refine aza (ai t2 (ai t3 (ai t4 t5))) ?_;refine use (cS _ rfl) ?_;refine aza (ai t2 (ai t3 (ai t4 (ai t5 hX)))) ?_;refine use (cK _ rfl) ?_;refine aza (ai t2 (ai t3 (ai t4 t5))) ?_;exact⟨f,by omega,r3,l++[(⟨nm,⟨kd,kn,ks⟩⟩:Adr.Step)],W',o',t',by omega,by simp;omega,hmod,rfl,gX',by(exact ev0 t2),by(exact ev0 t3),by(exact ev0 t4),by(exact ev0 t5)⟩
 ·rw[if_neg hgo]at hmod;injection hmod with hm1 hm2;subst hm1;subst hm2;have cD:=fun h hb=>ckg Adr.dataW r (h:=h) (i:=1) hb
  have l1:=Adr.has_len Adr.dataW r;obtain⟨⟨dt,r1⟩,hr1⟩:=Ex (Adr.hasP Adr.dataW r);rw[hr1]at cD l1 hF;dsimp only at cD l1 hF;have cT:=fun h hb=>cq8 r1 (by omega) (h:=h) (i:=1) hb
  have l2:=Adr.word_len r1;obtain⟨⟨ty,r2⟩,hr2⟩:=Ex (Adr.wordP r1);rw[hr2]at cT l2 hF;dsimp only at cT l2 hF;have cK:=fun h hb=>cz9 [46] r2 (h:=h) (i:=1) hb
  have l3:=Adr.skip_len [46] r2;obtain⟨r3,hr3⟩:=Ex (Adr.skipP [46] r2);rw[hr3]at cK l3 hF;have cN:=fun h hb=>cq8 r3 (by omega) (h:=h) (i:=1) hb
  have l4:=Adr.word_len r3;obtain⟨⟨na,r4⟩,hr4⟩:=Ex (Adr.wordP r3);rw[hr4]at cN l4 hF;dsimp only at cN l4 hF;have cY:=fun h hb=>dxg r4 (by omega) (h:=h) (i:=1) hb
  have l5:=Adr.key_len r4;obtain⟨⟨⟨kd,kn,ks⟩,⟨re,ba⟩⟩,hr5⟩:=Ex (Adr.keyP r4);rw[hr5]at cY l5 hF;dsimp only[Adr.K.A]at cY l5 hF;have ck:=fun h=>cyf ty (by omega) h
  unfold adB at cD cT cK cN cY;have hdw:Adr.dataW=[100,97,116,97,46]:=rfl;rw[hdw]at cD;have start:∀{G:Prop},(r.bad=true->G)->(r.bad=false->Adr.begins r.rest Adr.modW=false->G)->G:=fun p q=>by
   cases hb:r.bad
   ·refine q hb ?_;cases hB:Adr.begins r.rest Adr.modW
    ·rfl
    ·exact absurd ⟨hb,hB⟩ hgo
   ·exact p hb
  have lx:=Gs.le gX;refine start (fun hb=>?_) (fun hb hB=>?_)
  ·rw[hb]at cD⊢;refine aza (ai t2 (ai t3 (ai t4 t5))) ?_;refine use (cD _ rfl) ?_;refine aza (ai t2 (ai t3 (ai t4 t5))) ?_;refine use (cT _ rfl) ?_;refine aza (ai t2 (ai t3 (ai t4 t5))) ?_;refine use (cK _ rfl) ?_;refine aza (ai t2 (ai t3 (ai t4 t5))) ?_;refine use (cN _ rfl) ?_;refine aza (ai t2 (ai t3 (ai t4 t5))) ?_;refine use (cY _ rfl) ?_;have zle:leL [.sl 0 .nil [],.bool false,.str [],.str [],.int .i64 0,.int .i64 0,.str []] Adr.Ad.zero.cells:=⟨⟨rfl,.inr rfl,.inl rfl⟩,rfl,rfl,rfl,rfl,rfl,rfl,trivial⟩;cases ba;rotate_left
   ·rw[if_pos (.inl rfl)]at hF;subst hF;refine aza (ai t2 (ai t3 (ai t4 t5))) ?_;exact⟨.tup [.agg Adr.Ad.zero.cells,.int .i64 2],⟨zle,rfl,trivial⟩,rfl⟩
   cases hre:re != [];rotate_left
   ·rw[if_pos (.inr (.inl (Y2.1 hre)))]at hF;subst hF;refine aza (ai t2 (ai t3 (ai t4 (ai t5 hre)))) ?_;exact⟨.tup [.agg Adr.Ad.zero.cells,.int .i64 2],⟨zle,rfl,trivial⟩,rfl⟩
   refine aza (ai t2 (ai t3 (ai t4 (ai t5 hre)))) ?_;refine use (ck _) ?_;cases hkb:Adr.kindB ty
   ·rw[if_pos (.inr (.inr hkb))]at hF;subst hF;refine aza (ai t2 (ai t3 (ai t4 t5))) ?_;exact⟨.tup [.agg Adr.Ad.zero.cells,.int .i64 2],⟨zle,rfl,trivial⟩,rfl⟩
   rw[if_neg (by rintro(h|h|h);cases h;rw[bne_eq_false_iff_eq]at hre;exact h hre;rw[hkb]at h;cases h)]at hF;have lm:(l.map Adr.Step.cells).length=l.length:=Zh ..;by_cases hlen:(l.length:Int)>16
   ·rw[if_pos (by omega)]at hF;subst hF;refine aza (ai t2 (ai t3 (ai t4 (ai t5 (ai lm hlen))))) ?_;exact⟨.tup [.agg Adr.Ad.zero.cells,.int .i64 4],⟨zle,rfl,trivial⟩,rfl⟩
   ·rw[if_neg (by omega)]at hF;subst hF;refine aza (ai t2 (ai t3 (ai t4 (ai t5 (ai lm hlen))))) ?_;exact⟨.tup [.agg (Adr.Ad.cells ⟨l,dt,ty,na,⟨kd,kn,ks⟩⟩),.int .i64 0],⟨⟨lx,rfl,rfl,rfl,rfl,rfl,rfl,trivial⟩,rfl,trivial⟩,rfl⟩
  ·rw[hb]at cD⊢;have cH:=fun h hb=>ckg Adr.modW r (h:=h) (i:=1) hb
   have hh1:Adr.hasP Adr.modW r=(false,r):=by unfold Adr.hasP;rw[hB,if_neg (by decide)]
   have hmw:Adr.modW=[109,111,100,117,108,101,46]:=rfl;rw[hh1,hmw]at cH;unfold adB at cH;rw[hb]at cH;refine aza (ai t2 (ai t3 (ai t4 t5))) ?_;refine use (cH _ rfl) ?_;refine aza (ai t2 (ai t3 (ai t4 t5))) ?_;refine use (cD _ rfl) ?_;refine aza (ai t2 (ai t3 (ai t4 t5))) ?_;refine use (cT _ rfl) ?_;refine aza (ai t2 (ai t3 (ai t4 t5))) ?_;refine use (cK _ rfl) ?_;refine aza (ai t2 (ai t3 (ai t4 t5))) ?_;refine use (cN _ rfl) ?_;refine aza (ai t2 (ai t3 (ai t4 t5))) ?_;refine use (cY _ rfl) ?_;have zle:leL [.sl 0 .nil [],.bool false,.str [],.str [],.int .i64 0,.int .i64 0,.str []] Adr.Ad.zero.cells:=⟨⟨rfl,.inr rfl,.inl rfl⟩,rfl,rfl,rfl,rfl,rfl,rfl,trivial⟩;cases ba;rotate_left
   ·rw[if_pos (.inl rfl)]at hF;subst hF;refine aza (ai t2 (ai t3 (ai t4 t5))) ?_;exact⟨.tup [.agg Adr.Ad.zero.cells,.int .i64 2],⟨zle,rfl,trivial⟩,rfl⟩
   cases hre:re != [];rotate_left
   ·rw[if_pos (.inr (.inl (Y2.1 hre)))]at hF;subst hF;refine aza (ai t2 (ai t3 (ai t4 (ai t5 hre)))) ?_;exact⟨.tup [.agg Adr.Ad.zero.cells,.int .i64 2],⟨zle,rfl,trivial⟩,rfl⟩
   refine aza (ai t2 (ai t3 (ai t4 (ai t5 hre)))) ?_;refine use (ck _) ?_;cases hkb:Adr.kindB ty
   ·rw[if_pos (.inr (.inr hkb))]at hF;subst hF;refine aza (ai t2 (ai t3 (ai t4 t5))) ?_;exact⟨.tup [.agg Adr.Ad.zero.cells,.int .i64 2],⟨zle,rfl,trivial⟩,rfl⟩
   rw[if_neg (by rintro(h|h|h);cases h;rw[bne_eq_false_iff_eq]at hre;exact h hre;rw[hkb]at h;cases h)]at hF;have lm:(l.map Adr.Step.cells).length=l.length:=Zh ..;by_cases hlen:(l.length:Int)>16
   ·rw[if_pos (by omega)]at hF;subst hF;refine aza (ai t2 (ai t3 (ai t4 (ai t5 (ai lm hlen))))) ?_;exact⟨.tup [.agg Adr.Ad.zero.cells,.int .i64 4],⟨zle,rfl,trivial⟩,rfl⟩
   ·rw[if_neg (by omega)]at hF;subst hF;refine aza (ai t2 (ai t3 (ai t4 (ai t5 (ai lm hlen))))) ?_;exact⟨.tup [.agg (Adr.Ad.cells ⟨l,dt,ty,na,⟨kd,kn,ks⟩⟩),.int .i64 0],⟨⟨lx,rfl,rfl,rfl,rfl,rfl,rfl,trivial⟩,rfl,trivial⟩,rfl⟩
end AX
end
end Go.Proofs.YthhpocnmfknalaaGreatDoor
