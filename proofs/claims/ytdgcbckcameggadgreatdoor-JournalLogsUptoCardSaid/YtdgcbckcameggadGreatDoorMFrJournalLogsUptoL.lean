/- Part of what the proof needs. -/
import Derived.Test.YtdgcbckcameggadGreatDoorMFrJournalLogsUpto0
import Derived.Test.YtdgcbckcameggadGreatDoorMFrJournalLogsUptoA
import Derived.Test.YtdgcbckcameggadGreatDoorMFrJournalLogsUptoF
import Derived.Test.YtdgcbckcameggadGreatDoorMFrJournalLogsUptoG
import Derived.Test.YtdgcbckcameggadGreatDoorMFrJournalLogsUptoI
import Derived.Test.YtdgcbckcameggadGreatDoorMFrJournalLogsUptoJ
import Derived.Test.YtdgcbckcameggadGreatDoorMFrJournalLogsUptoK
import Derived.Laws.RangeAny
import Derived.Laws.Runes
import Derived.Lib.OthersKept
import Derived.Deep.LoopGhost
import Derived.BigRegion
import Derived.Below
import Derived.BigQuiet
import Derived.Deep.QuietTactic
import Derived.WalkMore
import Derived.IntWalk
set_option maxHeartbeats 4000000
set_option linter.unusedSimpArgs false
set_option linter.unusedVariables false
set_option linter.unnecessarySimpa false
namespace Go.Proofs.YtdgcbckcameggadGreatDoor
open Go.RowKit Go.Lib
def stops:ByteArray:=⟨#[46,91]⟩
theorem ayr(w:World)(s:ByteArray)(p:Nat):Below w.heap.size w (w.iter s p):=by
 refine⟨rfl,rfl,rfl,?_,fun g hg=>?_⟩
 ·show w.heap.size≤(w.heap.push (Obj.stringIter s p)).size
  simp
 ·show(w.heap.push (Obj.stringIter s p))[g]?=_
  rw[Array.getElem?_push,if_neg (by omega)]
set_option maxRecDepth 100000 in
theorem ay8(w:World):Calls Tryz.prog 183 #[.string stops,.int .i32 65533] w fun e w'=>e=.returned (.int .i64 (-1))∧Below w.heap.size w w':=by
 go_enter Tryz.func183,Tryz.ntmps183;have hsz:stops.size=2:=rfl;go_wp2_with fail
 go_loopg [5,6] 2 (fun g _ _ wx=>∃ i:Nat,i+g=2∧wx=w.iter stops i)
 case atStart=>exact⟨0,by omega,rfl⟩
 case round =>
  obtain⟨i,hig,rfl⟩:=hrel;cases gk with
  |zero =>
   obtain rfl:i=2:=by omega
   have hnx:=fun ty=>run_next_end (P:=Tryz.prog) w stops 2 ty (by decide)
   go_wp2
   go_ret
   exact⟨rfl,ayr w stops 2⟩
  |succ g =>
   have hi:i=0∨i=1:=by omega
   rcases hi with rfl|rfl
   ·have hnx:=fun ty=>run_next_ascii (P:=Tryz.prog) w stops 0 ty (by decide) (by decide)
    have e0:((stops[0]'(by decide)).toNat:Int)=46:=rfl;rw[e0]at hnx;go_wp2
    go_roundg g
    case measure=>omega
    case rel=>exact⟨1,by omega,rfl⟩
   ·have hnx:=fun ty=>run_next_ascii (P:=Tryz.prog) w stops 1 ty (by decide) (by decide)
    have e0:((stops[1]'(by decide)).toNat:Int)=91:=rfl;rw[e0]at hnx;go_wp2
    go_roundg g
    case measure=>omega
    case rel=>exact⟨2,by omega,rfl⟩
set_option maxRecDepth 100000 in
theorem bx4(r:Int)(h0:128≤r)(h1:r≤2147483647)(hr:r≠65533)(w:World):Calls Tryz.prog 183 #[.string stops,.int .i32 r] w fun e w'=>e=.returned (.int .i64 (-1))∧Below w.heap.size w w':=by
 go_enter Tryz.func183,Tryz.ntmps183;have hsz:stops.size=2:=rfl;have c1:decide (0≤r)=true:=Yr (by omega);have c2:decide (r<128)=false:=YH (by omega);have c3:(r==65533)=false:=Zu.2 hr;have Hv:=kept (fun w=>Tryz.utf8_ValidRune r w);cases hv:Lib.validRune r
 ·go_wp2_with fail;(with_reducible refine(Hv.out _).mono ?_);rintro e w1 ⟨rfl,rfl⟩
  rw[hv];go_wp2
  go_ret
  exact⟨rfl,Below.refl _ _⟩
 ·have hval:Utf8.valid r=true:=by rw[Go.validRune_eq];unfold Lib.validRune at hv;unfold Go.validRune;exact hv
  obtain⟨f1,f2,f3⟩:=encode_facts r hval h0;go_wp2_with fail;(with_reducible refine(Hv.out _).mono ?_);rintro e w1 ⟨rfl,rfl⟩
  rw[hv];have e1:IntKind.i64.wrap (((Utf8.encode r).size:Int)-1)=(((Utf8.encode r).size-1:Nat):Int):=by rw[show((Utf8.encode r).size:Int)-1=(((Utf8.encode r).size-1:Nat):Int) by omega];exact Go.IntWalk.i64_in _ ⟨by omega,by omega⟩
  have hcv:=fun(w:World)=>run_convert_int_string (P:=Tryz.prog) w 21 9 .i32 r rfl rfl
  go_wp2_with fail;apply wp_scope_straight;go_wp2
  go_loopg [9,10,11,12] 1 (fun g v9 v10 v11 v12 wx=>wx=w1∧v9=.int .i64 (((Utf8.encode r).size-1:Nat):Int))
  case atStart=>exact⟨rfl,rfl⟩
  case round =>
   obtain⟨rfl,rfl⟩:=hrel;by_cases h2:(Utf8.encode r).size=2
   ·have e2:(Utf8.encode r).size-1=1:=by omega
    obtain⟨x,hx⟩:∃ x:UInt8,(Utf8.encode r)[1]'(by omega)=x:=⟨_,rfl⟩;have hx1:128≤x.toNat:=by
     have:=f3 (by omega);simp only[e2]at this;rw[hx]at this;exact this
    have hi1:(1:Nat)<(Utf8.encode r).size:=by omega
    have hs1:(stops[1]'(by decide)).toNat=91:=rfl;have hne:((91:Int)!=(x.toNat:Int))=true:=by simp;omega
    have e3:(((Utf8.encode r).size-1:Nat):Int)=1:=by omega
    have hi2:(1:Int)<((Utf8.encode r).size:Int):=by omega
    rw[e3];go_wp2;apply wp_scope_straight;go_wp2_with fail
    go_region
    have hw2:IntKind.i64.wrap ((1:Int)+1)=2:=rfl;have hib0:Lib.indexByte [] x=-1:=rfl;go_wp2_with fail
    go_region_with ((with_reducible refine(Tryz.strings_IndexByte _ _ _).mono ?_);rintro e2 w2 ⟨rfl,rfl⟩)
    all_goals
     go_wp2;rw[Exit.noGoto_ret];go_wp2;rw[Exit.noGoto_ret];go_wp2
     go_ret
     first|exact⟨rfl,below_drewN (Below.refl _ _) 2⟩|exact⟨rfl,below_drewN _ 2⟩
   ·have hlt:¬((((Utf8.encode r).size-1:Nat):Int)<(stops.size:Int)):=by omega
    go_wp2
    go_ret
    exact⟨rfl,Below.refl _ _⟩
theorem av7(s:ByteArray)(i j:Nat)(h1:1≤j)(hj:j<(Utf8.decode s i).2):i+j<s.size∧128≤(s.get! (i+j)).toNat:=by
 unfold Utf8.decode at hj;dsimp only at hj;split at hj
 ·simp only at hj;omega
 ·split at hj
  ·next h =>
   simp only[Zc,Zq,ZC]at h;split at hj
   ·simp only at hj;obtain rfl:j=1:=by omega
    omega
   ·simp only at hj;omega
  ·split at hj
   ·next h =>
    simp only[Zc,Zq,ZC]at h;split at hj
    ·simp only at hj;have:j=1∨j=2:=by omega
     rcases this with rfl|rfl<;>omega
    ·simp only at hj;omega
   ·split at hj
    ·next h =>
     simp only[Zc,Zq,ZC]at h;split at hj
     ·simp only at hj;have:j=1∨j=2∨j=3:=by omega
      rcases this with rfl|rfl|rfl<;>omega
     ·simp only at hj;omega
    ·simp only at hj;omega
theorem bz3(r:Int)(h0:128≤r)(h1:r≤2147483647)(w:World):Calls Tryz.prog 183 #[.string stops,.int .i32 r] w fun e w'=>e=.returned (.int .i64 (-1))∧Below w.heap.size w w':=by
 by_cases h:r=65533
 ·subst h;exact ay8 w
 ·exact bx4 r h0 h1 h w
theorem bwn{s:ByteArray}{i:Nat}(hi:i<s.size)(hx:128≤(s[i]'hi).toNat)(h:Lib.NoAny s.data.toList stops.data.toList i):Lib.NoAny s.data.toList stops.data.toList (i+(Utf8.decode s i).2)∧i+(Utf8.decode s i).2≤s.size∧1≤(Utf8.decode s i).2:=by
 have hd:=(decode_high s i hi hx).2;refine⟨fun j b hj hb=>?_,?_,hd⟩
 ·by_cases hji:j<i
  ·exact h j b hji hb
  ·have hjs:j<s.size:=by
    have:=(Zd.1 hb).1;simpa using this
   have hb':b=s[j]'hjs:=by
    have:=Lib.data_getElem? s j hjs;rw[this]at hb;exact(Zat hb).symm
   have h128:128≤b.toNat:=by
    by_cases hji2:j=i
    ·subst hji2;rw[hb'];exact hx
    ·have:=(av7 s i (j-i) (by omega) (by omega)).2;rw[show i+(j-i)=j by omega]at this;rw[hb'];have e:s.get! j=s[j]'hjs:=get_at s j hjs;rw[e]at this;exact this
   have hne:b≠46∧b≠91:=by
    constructor
    ·rintro rfl;exact absurd h128 (by decide)
    ·rintro rfl;exact absurd h128 (by decide)
   show[(46:UInt8),91].contains b=false
   simp[hne.1,hne.2]
 ·by_cases h1:(Utf8.decode s i).2=1
  ·omega
  ·have:=(av7 s i ((Utf8.decode s i).2-1) (by omega) (by omega)).1;omega
set_option maxRecDepth 100000 in
theorem awz(s:ByteArray)(w:World)(h8:s.size≤8):Calls Tryz.prog 167 #[.string s,.string stops] w fun e w'=>e=.returned (.int .i64 (Lib.indexAny s.data.toList stops.data.toList))∧Below w.heap.size w w':=by
 have hss:stops.size=2:=rfl;have hemp:stops.toList.isEmpty=false:=by rw[Lib.toList_data];rfl
 have hn1:((stops.size:Int)==1)=false:=rfl;have h8z:decide ((8:Int)<(s.size:Int))=false:=YH (by omega);go_enter Tryz.func167,Tryz.ntmps167;go_wp2_with fail;(with_reducible refine(Tryz.strings_shouldUseASCIISet _ _).mono ?_);rintro e w1 ⟨rfl,rfl⟩
 rw[h8z];go_wp2_with fail
 go_loopg [9,10] s.size (fun g _ _ wx=>∃ i:Nat,s.size≤i+g∧i≤s.size∧wx.heap[w1.heap.size]?=some (.stringIter s i)∧Below w1.heap.size w1 wx∧Lib.NoAny s.data.toList stops.data.toList i)
 case atStart=>exact⟨0,by omega,by omega,World.iter_heap _ _ _,ayr _ _ _,Lib.NoAny.zero _ _⟩
 case round =>
  obtain⟨i,hig,his,hit,hbel,hno⟩:=hrel;by_cases hi:i<s.size
  ·cases gk with
   |zero=>omega
   |succ g =>
    obtain⟨x,hx⟩:∃ x:UInt8,s[i]'hi=x:=⟨_,rfl⟩;have hxl:s.data.toList[i]?=some x:=by rw[←hx];exact Lib.data_getElem? s i hi
    by_cases ha:x.toNat<128
    ·have hnx:=fun ty=>run_next_ascii_at (P:=Tryz.prog) wr w1.heap.size s i ty hit hi (by rw[hx];exact ha)
     rw[hx]at hnx;have Hit:=kept (iterAt_heap wr w1.heap.size s i (i+1) hit);have Hbel:=kept (below_iterAt hbel (Zf _) s (i+1));have Hno:=kept hno;have Hxl:=kept hxl;have hcon:=Lib.contains_iff_indexByte stops.data.toList x;have hback:((x.toNat:Int)).toNat.toUInt8=x:=by simp
     have Hx:=kept hx;clear hit hbel hno hxl hx;cases hin:stops.data.toList.contains x
     ·rw[hin]at hcon;have hlt:¬((0:Int)≤Lib.indexByte stops.data.toList x):=of_decide_eq_false hcon.symm;clear hcon;go_wp2_with fail;(with_reducible refine(Tryz.strings_IndexRune_ascii _ _ _ (by omega) (by omega)).mono ?_);rintro e w2 ⟨rfl,rfl⟩
      rw[hback];go_wp2
      go_roundg g
      case measure=>omega
      case rel=>exact⟨i+1,by omega,by omega,Hit.out,Hbel.out,Hno.out.succ Hxl.out hin⟩
     ·rw[hin]at hcon;have hge:(0:Int)≤Lib.indexByte stops.data.toList x:=of_decide_eq_true hcon.symm;clear hcon;go_wp2_with fail;(with_reducible refine(Tryz.strings_IndexRune_ascii _ _ _ (by omega) (by omega)).mono ?_);rintro e w2 ⟨rfl,rfl⟩
      rw[hback];go_wp2
      go_ret
      exact⟨by rw[Lib.indexAny_hit Hno.out Hxl.out hin];rfl,Hbel.out⟩
    ·have hx128:128≤(s[i]'hi).toNat:=by rw[hx];omega
     obtain⟨k1,k2,k3⟩:=bwn hi hx128 hno;have d1:=(decode_high s i hi hx128).1;have d2:=decode_le s i;have hnx:=fun ty=>run_next_any_at (P:=Tryz.prog) wr w1.heap.size s i ty hit hi
     obtain⟨⟨c,d⟩,hcd⟩:=Ex (Utf8.decode s i);rw[hcd]at k1 k2 k3 d1 d2 hnx;dsimp only at k1 k2 k3 d1 d2 hnx;have Hit:=kept (iterAt_heap wr w1.heap.size s i (i+d) hit);have Hbel:=kept (below_iterAt hbel (Zf _) s (i+d));have K1:=kept k1;clear hit hbel hno hxl hx hx128 hcd k1;go_wp2_with fail;(with_reducible refine(bz3 _ (by omega) (by omega) _).mono ?_);rintro e w2 ⟨rfl,b2⟩
     have hit2:w2.heap[w1.heap.size]?=some (.stringIter s (i+d)):=by rw[b2.block _ (ZX.1 Hit.out).1];exact Hit.out
     have Hit2:=kept hit2;have Hbel2:=kept (Hbel.out.trans (b2.mono (by have:=Hbel.out.size;exact this)));clear hit2 b2;go_wp2
     go_roundg g
     case measure=>omega
     case rel=>exact⟨i+d,by omega,by omega,Hit2.out,Hbel2.out,K1.out⟩
  ·obtain rfl:i=s.size:=by omega
   have hnx:=fun ty=>run_next_end_at (P:=Tryz.prog) wr w1.heap.size s s.size ty hit (by omega)
   have Hno:=kept hno;have Hbel:=kept hbel;clear hno hbel;go_wp2
   go_ret
   exact⟨by rw[Lib.indexAny_none (by rw[←Lib.size_eq];exact Hno.out)];rfl,Hbel.out⟩
set_option maxHeartbeats 8000000 in
set_option maxRecDepth 1000000 in
theorem ay4(s:ByteArray)(h8:8<s.size)(hs:s.size≤9223372036854775807)(w:World):Calls Tryz.prog 167 #[.string s,.string stops] w fun e w'=>e=.returned (.int .i64 (Lib.indexAny s.data.toList stops.data.toList))∧Below w.heap.size w w':=by
 have hz:=zero_of_info (P:=Tryz.prog) (t:=232) (n:=256) (v:=.agg (Array.replicate 256 (.bool false))) (by kernel_rfl);obtain⟨cells,hcells⟩:=Ex (Lib.setCells stops.data.toList);have hasc:∀(j:Nat) b,stops.data.toList[j]?=some b→b.toNat<128:=by
  intro j b hb
  match j,hb with
  |0,hb=>cases hb;decide
  |1,hb=>cases hb;decide
  |j+2,hb=>simp[stops]at hb
 have Hset:=kept (Tryz.strings_makeASCIISet hz.1 stops w (by decide) hasc);obtain⟨W,hW⟩:=Ex ((w.alloc (.cells cells 232)).alloc (.cells cells 232));have hbel:Below w.heap.size w W:=by
  rw[←hW];exact((Below.refl _ _).alloc (Zf _) _).alloc (((Below.refl w.heap.size w).alloc (Zf _) (.cells cells 232)).size) _
 have hcell:∀ x:UInt8,W.cell? ⟨w.heap.size+1,x.toNat,none⟩=some (.bool (stops.data.toList.contains x)):=fun x=>by
  rw[←hW,World.cell?_alloc_at _ _ _ _ (by simp),←hcells,Lib.setCells_at]
 have hst:(storeCells ⟨w.heap.size+1,0,none⟩ cells.toList 0).run Tryz.prog ((w.alloc (.cells cells 232)).alloc (.cells (Array.replicate 256 (.bool false)) 232))=.ok () W:=by
  have:=run_storeCells_new (P:=Tryz.prog) (w.alloc (.cells cells 232)) 232 (Array.replicate 256 (.bool false)) cells (by rw[←hcells,Lib.setCells_size];exact hz.2) (by rw[←hcells,Lib.setCells_size,Array.size_replicate]) (by rw[←hcells];exact Lib.setCells_one _);rw[hW]at this;simpa using this
 have hemp:stops.toList.isEmpty=false:=by rw[Lib.toList_data];rfl
 have hn1:((stops.size:Int)==1)=false:=rfl;have h8z:decide ((8:Int)<(s.size:Int))=true:=Yr (by omega);have HC:=kept hcell;have HB:=kept hbel;clear hcell hbel;rw[hcells]at Hset;go_enter Tryz.func167,Tryz.ntmps167;go_wp2_with fail;(with_reducible refine(Tryz.strings_shouldUseASCIISet _ _).mono ?_);rintro e w1 ⟨rfl,rfl⟩
 rw[h8z];go_wp2_with fail;(with_reducible refine Hset.out.mono ?_);rintro e w1 ⟨rfl,rfl⟩
 have hcsz:cells.size=256:=by rw[←hcells];exact Lib.setCells_size _
 have e0:Tryz.zeroCells232=Array.replicate 256 (.bool false):=by kernel_rfl
 go_wp2
 go_loopg [8] s.size (fun g s8 wx=>∃ i:Nat,i+g=s.size∧s8=.int .i64 i∧wx=W∧Lib.NoAny s.data.toList stops.data.toList i)
 case atStart=>exact⟨0,by omega,rfl,rfl,Lib.NoAny.zero _ _⟩
 case round =>
  obtain⟨i,hig,rfl,rfl,hno⟩:=hrel;have HN:=kept hno;clear hno;cases gk with
  |zero =>
   obtain rfl:i=s.size:=by omega
   have hiz:¬((s.size:Int)<(s.size:Int)):=by omega
   go_wp2
   go_ret
   exact⟨by rw[Lib.indexAny_none (by rw[←Lib.size_eq];exact HN.out)];rfl,HB.out⟩
  |succ g =>
   have hi:i<s.size:=by omega
   have hiz:(i:Int)<(s.size:Int):=by omega
   have hw:IntKind.i64.wrap ((i:Int)+1)=(i:Int)+1:=Go.IntWalk.i64_in _ ⟨by omega,by omega⟩;obtain⟨x,hx⟩:∃ x:UInt8,s[i]'hi=x:=⟨_,rfl⟩;have hxl:s.data.toList[i]?=some x:=by rw[←hx];exact Lib.data_getElem? s i hi
   have Hxl:=kept hxl;clear hxl;have hcx:=HC.out x;cases hin:stops.data.toList.contains x<;>rw[hin]at hcx
   ·go_wp2_with fail;(with_reducible refine(Tryz.asciiSet_contains _ x _ _ hcx).mono ?_);rintro e w2 ⟨rfl,rfl⟩
    go_wp2
    go_roundg g
    case measure=>omega
    case rel=>exact⟨i+1,by omega,by first|rfl|simp,rfl,HN.out.succ Hxl.out hin⟩
   ·go_wp2_with fail;(with_reducible refine(Tryz.asciiSet_contains _ x _ _ hcx).mono ?_);rintro e w2 ⟨rfl,rfl⟩
    go_wp2
    go_ret
    exact⟨by rw[Lib.indexAny_hit HN.out Hxl.out hin];rfl,HB.out⟩
theorem bxv(s:ByteArray)(hs:s.size≤9223372036854775807)(w:World):Calls Tryz.prog 167 #[.string s,.string stops] w fun e w'=>e=.returned (.int .i64 (Lib.indexAny s.data.toList stops.data.toList))∧Below w.heap.size w w':=by
 by_cases h8:s.size≤8
 ·exact awz s w h8
 ·exact ay4 s (by omega) hs w
end Go.Proofs.YtdgcbckcameggadGreatDoor

namespace Go.Proofs.YtdgcbckcameggadGreatDoor
open Go.RowKit
namespace Adr
def first(k:Nat)(c:UInt8):Bool:=if k=0 then letter c else wordB c
def idOk(j:Nat)(s:List UInt8):Prop:=∀ k,k<j→first k (s.getD k 0)=true
theorem wordB_of_letter{c:UInt8}(h:letter c=true):wordB c=true:=by unfold wordB;rw[h];rfl
theorem ident_fail{s:List UInt8}{j:Nat}(hj:j<s.length)(h:first j (s.getD j 0)=false):ident s=false:=by
 unfold ident;unfold first at h;split at h
 ·next e =>
  subst e;rw[h];simp
 ·have:s.all wordB=false:=by
   rw[List.all_eq_false];refine⟨s[j],Zp hj,?_⟩;have e:s.getD j 0=s[j]:=by simp[List.getD,hj]
   rw[e]at h;rw[h];decide
  simp[this]
theorem ident_end{s:List UInt8}(h:idOk s.length s):ident s=(s != []&&decide (s.length≤64)):=by
 unfold ident;cases s with
 |nil=>rfl
 |cons c t =>
  have h0:letter ((c::t).getD 0 0)=true:=by
   have:=h 0 (by simp);unfold first at this
   rwa [if_pos rfl]at this
  have h1:(c::t).all wordB=true:=by
   rw[ZF];intro x hx;obtain⟨j,hj,rfl⟩:=List.getElem_of_mem hx;have:=h j hj;have e:(c::t).getD j 0=(c::t)[j]:=by rw[ZY,Zm hj];rfl
   unfold first at this;rw[e]at this;split at this
   ·exact wordB_of_letter this
   ·exact this
  rw[h0,h1];simp
set_option maxRecDepth 100000 in
theorem or_letter:∀ n:Fin 256,letter (UInt8.ofNat n.val)=!((((n.val:Nat):Int)!=95)&&(decide (bits .or .u8 ((n.val:Nat):Int) 32<97)||decide (bits .or .u8 ((n.val:Nat):Int) 32>122))):=by decide +kernel
theorem letter_or(c:UInt8):letter c=!(((c.toNat:Int)!=95)&&(decide (bits .or .u8 (c.toNat:Int) 32<97)||decide (bits .or .u8 (c.toNat:Int) 32>122))):=by
 have:=or_letter ⟨c.toNat,c.toNat_lt⟩;simpa using this
end Adr
namespace AX
theorem ak3(s:List UInt8)(hl:s.length≤2000000)(h:Hp):AT 110 [.str s] h (.bool (Adr.ident s)):=by
 refine pcall ?_ rfl (by simp[A.pure,A.data]) h;refine fo ?_;refine azb ti ?_;refine azf (fun mm ts h=>∃(j:Nat),mm=s.length-j∧j≤s.length∧h=⟨[],[]⟩∧Adr.idOk j s∧ts 0=.str s∧ts 6=.int .i64 (s.length:Nat)∧ts 7=.int .i64 (j:Nat)) s.length ?_ ?_
 ·exact⟨0,by omega,by omega,rfl,fun k hk=>absurd hk (Nat.not_lt_zero k),by(exact ev0 ti),by(exact ev0 ti),by(exact azq ti)⟩
 rintro mm ts h ⟨j,rfl,hjc,rfl,hok,t0,t6,t7⟩;by_cases hj:j<s.length
 ·have hlt:(j:Int)<(s.length:Int):=by omega
  have hj0:(0:Int)≤(j:Int):=by omega
  have ei:IntKind.i64.wrap ((j:Int)+1)=((j+1:Nat):Int):=by rw[wrap64 (by omega) (by omega)];omega
  obtain⟨c,hc⟩:=Ex (s.getD j 0)
  have hfl:Adr.letter c=false→j=0∨Adr.wordB c=false→Adr.ident s=false:=fun h1 h2=>Adr.ident_fail hj (by
   rw[hc];unfold Adr.first;rcases h2 with h2|h2
   ·rw[if_pos h2];exact h1
   ·split
    ·exact h1
    ·exact h2)
  have hgo:Adr.first j c=true→Adr.idOk (j+1) s:=fun h1 k hk=>by
   by_cases e:k=j
   ·rw[e,hc];exact h1
   ·exact hok k (by omega)
  have hlo:=Adr.letter_or c;have hdg:=Num.digB_int c;have hwb:Adr.wordB c=(Adr.letter c||Num.digB c):=rfl;obtain⟨x,hx⟩:∃ x:Int,(c.toNat:Int)=x:=⟨_,rfl⟩;rw[hx]at hlo hdg;obtain⟨y,hy⟩:∃ y:Int,bits .or .u8 x 32=y:=⟨_,rfl⟩;rw[hy]at hlo;have next:Adr.first j c=true→∃ m',m'<s.length-j∧∃(j':Nat),m'=s.length-j'∧j'≤s.length∧Adr.idOk j' s∧j'=j+1:=fun h1=>⟨s.length-(j+1),by omega,j+1,rfl,by omega,hgo h1,rfl⟩
  by_cases h95:x=95
  ·have e1:(x !=95)=false:=by simp[h95]
   have hL:Adr.letter c=true:=by rw[hlo,e1];rfl
   refine azb (ai t0 (ai t6 (ai t7 (ai hlt (ai hj0 (ai hc (ai hx (ai hy (ai e1 ei))))))))) ?_;exact⟨s.length-(j+1),by omega,j+1,rfl,by omega,rfl,hgo (by unfold Adr.first;split;exact hL;rw[hwb,hL];rfl),by(exact ev0 t0),by(exact ev0 t6),by(exact ev0 ei)⟩
  have e1:(x !=95)=true:=by simp[h95]
  by_cases h97:y<97∨y>122
  rotate_left
  ·have e2:¬y<97:=by omega
   have e3:¬y>122:=by omega
   have hL:Adr.letter c=true:=by rw[hlo,e1,YH e2,YH e3];rfl
   refine azb (ai t0 (ai t6 (ai t7 (ai hlt (ai hj0 (ai hc (ai hx (ai hy (ai e1 (ai e2 (ai e3 ei))))))))))) ?_;exact⟨s.length-(j+1),by omega,j+1,rfl,by omega,rfl,hgo (by unfold Adr.first;split;exact hL;rw[hwb,hL];rfl),by(exact ev0 t0),by(exact ev0 t6),by(exact ev0 ei)⟩
  have hL:Adr.letter c=false:=by
   rw[hlo,e1];rcases h97 with h97|h97
   ·rw[Yr h97];rfl
   ·rw[Yr h97,Bool.or_true];rfl
  have fail:(j=0∨Adr.wordB c=false)→Adr.ident s=false:=hfl hL;have e23:y<97∨(¬y<97∧y>122):=by omega
  by_cases hz:j=0
  ·have e4:((j:Int)==0)=true:=by simp[hz]
   have hF:=fail (.inl hz);rcases e23 with e2|⟨e2,e3⟩
   ·refine azb (ai t0 (ai t6 (ai t7 (ai hlt (ai hj0 (ai hc (ai hx (ai hy (ai e1 (ai e2 e4)))))))))) ?_;exact⟨_,le_refl _,by rw[hF];rfl⟩
   ·refine azb (ai t0 (ai t6 (ai t7 (ai hlt (ai hj0 (ai hc (ai hx (ai hy (ai e1 (ai e2 (ai e3 e4))))))))))) ?_;exact⟨_,le_refl _,by rw[hF];rfl⟩
  have e4:((j:Int)==0)=false:=by simp;omega
  by_cases hd:48≤x∧x≤57
  ·have e5:¬x<48:=by omega
   have e6:¬x>57:=by omega
   have hW:Adr.wordB c=true:=by rw[hwb,hdg,Yr hd.1,Yr hd.2,hL];rfl
   have hfst:Adr.first j c=true:=by unfold Adr.first;rw[if_neg hz];exact hW
   rcases e23 with e2|⟨e2,e3⟩
   ·refine azb (ai t0 (ai t6 (ai t7 (ai hlt (ai hj0 (ai hc (ai hx (ai hy (ai e1 (ai e2 (ai e4 (ai e5 (ai e6 ei))))))))))))) ?_;exact⟨s.length-(j+1),by omega,j+1,rfl,by omega,rfl,hgo hfst,by(exact ev0 t0),by(exact ev0 t6),by(exact ev0 ei)⟩
   ·refine azb (ai t0 (ai t6 (ai t7 (ai hlt (ai hj0 (ai hc (ai hx (ai hy (ai e1 (ai e2 (ai e3 (ai e4 (ai e5 (ai e6 ei)))))))))))))) ?_;exact⟨s.length-(j+1),by omega,j+1,rfl,by omega,rfl,hgo hfst,by(exact ev0 t0),by(exact ev0 t6),by(exact ev0 ei)⟩
  ·have hD:Num.digB c=false:=by
    rw[hdg];by_cases a:48≤x
    ·rw[Yr a,YH (by omega)];rfl
    ·rw[YH a];rfl
   have hF:=fail (.inr (by rw[hwb,hL,hD];rfl));have e56:x<48∨(¬x<48∧x>57):=by omega
   rcases e23 with e2|⟨e2,e3⟩
   ·rcases e56 with e5|⟨e5,e6⟩
    ·refine azb (ai t0 (ai t6 (ai t7 (ai hlt (ai hj0 (ai hc (ai hx (ai hy (ai e1 (ai e2 (ai e4 e5))))))))))) ?_;exact⟨_,le_refl _,by rw[hF];rfl⟩
    ·refine azb (ai t0 (ai t6 (ai t7 (ai hlt (ai hj0 (ai hc (ai hx (ai hy (ai e1 (ai e2 (ai e4 (ai e5 e6)))))))))))) ?_;exact⟨_,le_refl _,by rw[hF];rfl⟩
   ·rcases e56 with e5|⟨e5,e6⟩
    ·refine azb (ai t0 (ai t6 (ai t7 (ai hlt (ai hj0 (ai hc (ai hx (ai hy (ai e1 (ai e2 (ai e3 (ai e4 e5)))))))))))) ?_;exact⟨_,le_refl _,by rw[hF];rfl⟩
    ·refine azb (ai t0 (ai t6 (ai t7 (ai hlt (ai hj0 (ai hc (ai hx (ai hy (ai e1 (ai e2 (ai e3 (ai e4 (ai e5 e6))))))))))))) ?_;exact⟨_,le_refl _,by rw[hF];rfl⟩
 ·have hlt:¬((j:Int)<(s.length:Int)):=by omega
  have hje:j=s.length:=by omega
  rw[hje]at hok;have hE:=Adr.ident_end hok;by_cases hn:s=[]
  ·have e1:(s != [])=false:=by simp[hn]
   rw[e1]at hE;refine azb (ai t0 (ai t6 (ai t7 (ai hlt e1)))) ?_;exact⟨_,le_refl _,by rw[hE];rfl⟩
  ·have e1:(s != [])=true:=by simp[hn]
   rw[e1]at hE;have e2:decide ((s.length:Int)≤64)=decide (s.length≤64):=decide_eq_decide.2 (by omega);refine azb (ai t0 (ai t6 (ai t7 (ai hlt e1)))) ?_;exact⟨_,le_refl _,by rw[hE];first|rfl|(rw[azj,e2];rfl)|rw[←e2];rfl⟩
theorem cwb(s p:List UInt8)(h:Hp):AT 182 [.str s,.str p] h (.tup [.str (if Adr.begins s p then s.drop p.length else s),.bool (Adr.begins s p)]):=by
 refine pcall ?_ rfl (by simp[A.pure,A.data]) h;refine fo ?_;have hp:(decide (p.length≤s.length)&&s.take p.length==p)=Adr.begins s p:=by
  unfold Adr.begins;rw[Yf,Zak,List.prefix_iff_eq_take,Zc,Zq,ZC];constructor
  ·rintro⟨h1,h2⟩;exact h2.symm
  ·intro h2;exact⟨by have:=congrArg List.length h2;rw[ZT]at this;omega,h2.symm⟩
 have hc:=fun h=>ax6 s p h
 rw[hp]at hc;refine azb ti ?_;refine use (hc _) ?_;cases hB:Adr.begins s p
 ·refine azb ti ?_;exact⟨_,le_refl _,rfl⟩
 ·have hle:(p.length:Int)≤(s.length:Int):=by have:=Adr.begins_len hB;omega
  have h0:(0:Int)≤(p.length:Int):=by omega
  refine azb (ai hle h0) ?_;refine⟨_,le_refl _,?_⟩;rw[if_pos rfl];first|rfl|(rw[az8];simp)
theorem ckj(s p:List UInt8)(h:Hp):AT 166 [.str s,.str p] h (.tup [.str (if Adr.begins s p then s.drop p.length else s),.bool (Adr.begins s p)]):=by
 refine pcall ?_ rfl (by simp[A.pure,A.data]) h;refine fo ?_;refine azb ti ?_;refine use (cwb s p _) ?_;refine azb ti ?_;exact⟨_,le_refl _,rfl⟩
def adB(r:Adr.Rd):Blk:=.cells 196 [.str r.rest,.bool r.bad]
theorem axi(r:Adr.Rd):(adB r).loc 0:=rfl
theorem cj3(p:List UInt8)(r:Adr.Rd){h:Hp}{i:Nat}(hb:h.b[i]?=some (adB r)) :
  AC 142 [.ptr i 0,.str p] h fun v h'=>v=.bool (Adr.hasP p r).1∧h'=⟨h.b.set i (adB (Adr.hasP p r).2),h.t⟩:=by
 have key:AC 142 [.ptr 0 0,.str p] ⟨[adB r],[]⟩ fun v h'=>∃ b',h'.b[0]?=some b'∧v=.bool (Adr.hasP p r).1∧b'=adB (Adr.hasP p r).2:=by
  refine fo ?_;unfold adB;refine azb ti ?_;refine use (ckj r.rest p _) ?_;unfold Adr.hasP;cases hB:Adr.begins r.rest p
  ·refine azb ti ?_;exact⟨_,le_refl _,_,rfl,rfl,rfl⟩
  ·refine azb ti ?_;exact⟨_,le_refl _,_,rfl,rfl,rfl⟩
 refine(ACall.lift1 key rfl (axi r) ?_ hb).mono ?_
 ·rintro v b' ⟨rfl,rfl⟩;exact⟨rfl,axi _⟩
 ·rintro v h' ⟨b',⟨rfl,rfl⟩,rfl⟩;exact⟨rfl,rfl⟩
theorem czy(p:List UInt8)(r:Adr.Rd){h:Hp}{i:Nat}(hb:h.b[i]?=some (adB r)) :
  AC 144 [.ptr i 0,.str p] h fun v h'=>v=.tup []∧h'=⟨h.b.set i (adB (Adr.skipP p r)),h.t⟩:=by
 have key:AC 144 [.ptr 0 0,.str p] ⟨[adB r],[]⟩ fun v h'=>∃ b',h'.b[0]?=some b'∧v=.tup []∧b'=adB (Adr.skipP p r):=by
  obtain⟨rest,bad⟩:=r;refine fo ?_;unfold adB;refine azb ti ?_;refine use (ckj rest p _) ?_;unfold Adr.skipP;dsimp only;cases hB:Adr.begins rest p
  ·cases bad
   ·refine azb ti ?_;exact⟨_,le_refl _,_,rfl,rfl,rfl⟩
   ·refine azb ti ?_;exact⟨_,le_refl _,_,rfl,rfl,rfl⟩
  ·cases bad
   ·refine azb ti ?_;exact⟨_,le_refl _,_,rfl,rfl,rfl⟩
   ·refine azb ti ?_;exact⟨_,le_refl _,_,rfl,rfl,rfl⟩
 refine(ACall.lift1 key rfl (axi r) ?_ hb).mono ?_
 ·rintro v b' ⟨rfl,rfl⟩;exact⟨rfl,axi _⟩
 ·rintro v h' ⟨b',⟨rfl,rfl⟩,rfl⟩;exact⟨rfl,rfl⟩
end AX
namespace Sf
theorem instS_le(ver:Int)(s:Rs):(instS ver s).1.r.rest.length≤s.r.rest.length:=by
 unfold instS;dsimp only;refine Zn (wordsS_le _ _ _) (Zn (cntS_le _) ?_);have k:(flagS (numS (valueS (strS (strS (strS (strS s).1).1).1).1).1).1).1.r.rest.length≤s.r.rest.length:=
  Zn (flagS_le _) (Zn (numS_le _) (Zn (valueS_le _) (Zn (strS_le _) (Zn (strS_le _) (Zn (strS_le _) (strS_le _))))))
 split
 ·exact Zn (flagS_le _) k
 ·exact k
end Sf
namespace AX
theorem cvc{ver:Int}(hver:ver=1∨ver=2)(s:Sf.Rs)(hl:s.r.rest.length≤100000000)(l:List Blk)(t:List (TypeId×Nat×Nat)) :
  AC 131 [.ptr 0 0] ⟨RB ver s.bad::rdr s.r::l,t⟩ fun v h'=>v=(Sf.stateS ver s).2.A∧h'=⟨RB ver (Sf.stateS ver s).1.bad::rdr (Sf.stateS ver s).1.r::l,t⟩:=by
 refine liftR (s':=(Sf.stateS ver s).1) (v:=(Sf.stateS ver s).2.A) ?_ rfl rfl l t;refine fo ?_;unfold RB;obtain⟨⟨r1,x1⟩,h1⟩:=Ex (Wire.strR s.r);have l1:=Wire.strR_rest s.r;rw[h1]at l1;obtain⟨⟨r2,x2⟩,h2⟩:=Ex (Wire.numR r1);have l2:=Wire.numR_rest r1;rw[h2]at l2;obtain⟨⟨rc,c⟩,hc⟩:=Ex (Wire.cntR r2 1);have lc:=Wire.cntR_rest r2 1;have lk:=Wire.cntR_cnt r2;rw[hc]at lc lk;dsimp only at l1 l2 lc lk;have str:∀(r r':Wire.St) (x:List UInt8) (h:Hp),Wire.strR r=(r',x)→h.b[1]?=some (rdr r)→r.rest.length≤100000000→AC 63 [.ptr 1 0] h fun v h'=>v=.str x∧h'=⟨h.b.set 1 (rdr r'),h.t⟩:=fun r r' x h e hb hl=>by
  have:=aqj hb hl;rw[e]at this;exact this
 have num:∀(r r':Wire.St) (x:Int) (h:Hp),Wire.numR r=(r',x)→h.b[1]?=some (rdr r)→r.rest.length≤100000000→AC 98 [.ptr 1 0] h fun v h'=>v=.int .i64 x∧h'=⟨h.b.set 1 (rdr r'),h.t⟩:=fun r r' x h e hb hl=>by
  have:=aqa hb hl;rw[e]at this;exact this
 have cnt:∀(r r':Wire.St) (x:Nat) (h:Hp),Wire.cntR r 1=(r',x)→h.b[1]?=some (rdr r)→r.rest.length≤100000000→AC 135 [.ptr 1 0,.int .i64 1] h fun v h'=>v=.int .i64 (x:Nat)∧h'=⟨h.b.set 1 (rdr r'),h.t⟩:=fun r r' x h e hb hl=>by
  have:=akw hb hl;rw[e]at this;exact this
 obtain⟨res,hres⟩:=Ex (Sf.instsS ver c ⟨rc,s.bad⟩ [])
 have hS:Sf.stateS ver s=(if res.2.2=false then(res.1,⟨x1,x2,res.2.1,[],[]⟩)else
   let p:=if ver=2 then Sf.pendsS (Sf.cntS res.1).2 (Sf.cntS res.1).1 []else(res.1,[])
   let co:=Sf.cntS p.1
   let o:=Sf.outsS co.2 co.1 []
   (o.1,⟨x1,x2,res.2.1,p.2,o.2.1⟩)):=by
  rw[←hres];unfold Sf.stateS Sf.strS Sf.numS;simp only[h1,h2];rw[show Sf.cntS ⟨r2,s.bad⟩=(⟨rc,s.bad⟩,c) by unfold Sf.cntS;simp only[hc]]
 have fin1:∀ {p:Sf.Rs} {is:List Sf.Inst},(p,is,false)=res→Sf.stateS ver s=(p,⟨x1,x2,is,[],[]⟩):=fun e=>by rw[hS,←e];rfl
 have fin2:∀ {p:Sf.Rs} {is:List Sf.Inst},(p,is,true)=res→∀(q:Sf.Rs) (ps:List Sf.Pend) (rc3:Wire.St) (c3:Nat) {r3:Sf.Rs×List Sf.Outp×Bool},(if ver=2 then Sf.pendsS (Sf.cntS p).2 (Sf.cntS p).1 []else(p,[]))=(q,ps)→Wire.cntR q.r 1=(rc3,c3)→Sf.outsS c3 ⟨rc3,q.bad⟩ []=r3→Sf.stateS ver s=(r3.1,⟨x1,x2,is,ps,r3.2.1⟩):=by
  intro p is e q ps rc3 c3 r3 h h3 hr;rw[hS,←e];dsimp only;rw[if_neg (by decide),h];dsimp only;rw[show Sf.cntS q=(⟨rc3,q.bad⟩,c3) by unfold Sf.cntS;rw[h3]];dsimp only;rw[hr]
 have hv12:∀ {G:Prop},((ver==2)=false→G)→((ver==2)=true→G)→G:=fun p q=>by
  rcases azl (ver==2)with e|e
  ·first|exact q e|exact p e
  ·first|exact p e|exact q e
 refine azb ti ?_;refine by3 [4,9,12] 11 [⟨[.cells 188 [.ptr 1 0,.int .i64 ver,.bool s.bad],rdr s.r,.cells 35 [.str [],.int .i64 0,.sl 0 .nil [],.sl 0 .nil [],.sl 0 .nil []]],[]⟩,⟨[.cells 188 [.ptr 1 0,.int .i64 ver,.bool s.bad],rdr r1,.cells 35 [.str [],.int .i64 0,.sl 0 .nil [],.sl 0 .nil [],.sl 0 .nil []]],[]⟩,⟨[.cells 188 [.ptr 1 0,.int .i64 ver,.bool s.bad],rdr r2,.cells 35 [.str [],.int .i64 0,.sl 0 .nil [],.sl 0 .nil [],.sl 0 .nil []]],[]⟩,⟨[],[]⟩,⟨[.cells 188 [.ptr 1 0,.int .i64 ver,.bool s.bad],rdr s.r,.cells 35 [.str [],.int .i64 0,.sl 0 .nil [],.sl 0 .nil [],.sl 0 .nil []],.cells 35 [.str [],.int .i64 0,.sl 0 .nil [],.sl 0 .nil [],.sl 0 .nil []]],[]⟩,⟨[.cells 188 [.ptr 1 0,.int .i64 ver,.bool s.bad],rdr r1,.cells 35 [.str [],.int .i64 0,.sl 0 .nil [],.sl 0 .nil [],.sl 0 .nil []],.cells 35 [.str [],.int .i64 0,.sl 0 .nil [],.sl 0 .nil [],.sl 0 .nil []]],[]⟩,⟨[.cells 188 [.ptr 1 0,.int .i64 ver,.bool s.bad],rdr r2,.cells 35 [.str [],.int .i64 0,.sl 0 .nil [],.sl 0 .nil [],.sl 0 .nil []],.cells 35 [.str [],.int .i64 0,.sl 0 .nil [],.sl 0 .nil [],.sl 0 .nil []]],[]⟩,⟨[.cells 188 [.ptr 1 0,.int .i64 ver,.bool s.bad],rdr r2,.cells 35 [.str [],.int .i64 0,.sl 0 .nil [],.sl 0 .nil [],.sl 0 .nil []],.cells 35 [.str x1,.int .i64 x2,.sl 0 .nil [],.sl 0 .nil [],.sl 0 .nil []]],[]⟩] [[0,4],[0,4],[0,4],[0,4],[0,4],[0,1,4,5],[0,1,4,5],[0,1,4,5],[0,1,4,5],[1,5],[2,6],[0,1,2],[6]] rfl (by decide +kernel) ?_;refine AX.rung ti ?_;refine avm (vs:=[.ptr 1 0]) (by(exact ev0 ti)) ⟨str s.r r1 x1 _ h1 rfl (by omega),str s.r r1 x1 _ h1 rfl (by omega),trivial⟩ ?_;refine AX.rung ti ?_;refine avm (vs:=[.ptr 1 0]) (by(exact ev0 ti)) ⟨num r1 r2 x2 _ h2 rfl (by omega),num r1 r2 x2 _ h2 rfl (by omega),trivial⟩ ?_;refine AX.rung ti ?_;refine azb ti ?_;refine use (cnt r2 rc c _ hc rfl (by omega)) ?_;refine azb ti ?_;refine azf (fun mm ts h=>∃(j:Nat) (p:Sf.Rs) (is:List Sf.Inst) (W:Nat) (o:Own) (t:List (TypeId×Nat×Nat)),mm=c-j∧j≤c∧h=⟨[.cells 188 [.ptr 1 0,.int .i64 ver,.bool p.bad],rdr p.r,.cells 35 [.str [],.int .i64 0,.sl 0 .nil [],.sl 0 .nil [],.sl 0 .nil []],.cells 35 [.str x1,.int .i64 x2,(.sl W o (is.map Sf.Inst.cells)),.sl 0 .nil [],.sl 0 .nil []]],t⟩∧Sf.instsS ver (c-j) p is=res∧is.length=j∧p.r.rest.length≤100000000∧Gs 43 13 0 ⟨[],t⟩ (is.map Sf.Inst.cells) (.sl W o (is.map Sf.Inst.cells))∧ts 0=.ptr 0 0∧ts 2=.ptr 2 0∧ts 3=.ptr 3 0∧ts 20=.int .i64 (c:Nat)∧ts 21=.int .i64 (j:Nat)) c ?_ ?_
 ·exact⟨0,⟨rc,s.bad⟩,[],0,.nil,[],by omega,by omega,rfl,hres,rfl,(by dsimp only;omega),.inl ⟨rfl,rfl⟩,by(exact ev0 ti),by(exact ev0 ti),by(exact ev0 ti),by(exact ev0 ti),by(exact azq ti)⟩
 rintro mm ts h ⟨j,p,is,W,o,t,rfl,hjc,rfl,hit,hdl,hpl,gX,t0,t2,t3,ta,tb⟩;by_cases hj:j<c
 ·have cf:=akf (ver:=ver) p [.cells 35 [.str [],.int .i64 0,.sl 0 .nil [],.sl 0 .nil [],.sl 0 .nil []],.cells 35 [.str x1,.int .i64 x2,(.sl W o (is.map Sf.Inst.cells)),.sl 0 .nil [],.sl 0 .nil []]] t;unfold RB at cf;have hlt:(j:Int)<(c:Int):=by omega
  have ei:IntKind.i64.wrap ((j:Int)+1)=((j+1:Nat):Int):=by rw[wrap64 (by omega) (by omega)];omega
  rw[show c-j=(c-(j+1))+1 by omega]at hit;unfold Sf.instsS at hit;refine azb (ai t0 (ai t2 (ai t3 (ai ta (ai tb hlt))))) ?_;refine use cf ?_;rcases azl p.fails with e|e
  ·rw[e,if_pos rfl]at hit;rw[e];refine azb (ai t0 (ai t2 (ai t3 (ai ta tb)))) ?_;subst hit;have hfin:=fin1 rfl;exact⟨.agg [.str x1,.int .i64 x2,.sl 13 .no (is.map Sf.Inst.cells),.sl 3 .no (([]:List Sf.Pend).map Sf.Pend.cells),.sl 7 .no (([]:List Sf.Outp).map Sf.Outp.cells)],⟨aza _,aza _,Gs.le gX,⟨rfl,.inr rfl,.inl rfl⟩,⟨rfl,.inr rfl,.inl rfl⟩,trivial⟩,by rw[hfin];rfl,by rw[hfin];rfl,by rw[hfin];rfl⟩
  rw[e,if_neg (by decide)]at hit;rw[e];have ci:=cw5 hver p hpl [.cells 35 [.str [],.int .i64 0,.sl 0 .nil [],.sl 0 .nil [],.sl 0 .nil []],.cells 35 [.str x1,.int .i64 x2,(.sl W o (is.map Sf.Inst.cells)),.sl 0 .nil [],.sl 0 .nil []]] t;have li:=Sf.instS_le ver p;obtain⟨⟨p2,x⟩,hx⟩:=Ex (Sf.instS ver p);rw[hx]at ci hit li;dsimp only at ci hit li;unfold RB at ci;obtain⟨W',o',t',hX,gX',_⟩:=gX.grow 184 x.cells (by rw[Zj];omega) (by decide);have em:is.map Sf.Inst.cells++[x.cells]=(is++[x]).map Sf.Inst.cells:=by simp
  rw[em]at gX';simp only[em]at hX;have hil:(is++[x]).length=j+1:=by simp[hdl]
  obtain⟨is2,hi2⟩:=Ex (is++[x]);rw[hi2]at hX gX' hit hil;clear em hi2 hx;obtain⟨a,d,id,ty,⟨k,n,w,vi,vy⟩,v,tn,fi,ds⟩:=x;simp only[Sf.Inst.cells]at ci hX;refine azb (ai t0 (ai t2 (ai t3 (ai ta tb)))) ?_;refine use ci ?_;refine azb (ai t0 (ai t2 (ai t3 (ai ta (ai tb (ai hX ei)))))) ?_;exact⟨c-(j+1),by omega,j+1,p2,is2,W',o',t',rfl,by omega,rfl,hit,hil,by omega,gX',by(exact ev0 t0),by(exact ev0 t2),by(exact ev0 t3),by(exact ev0 ta),by(exact ev0 ei)⟩
 have hlt:¬((j:Int)<(c:Int)):=by omega
 rw[show c-j=0 by omega]at hit;unfold Sf.instsS at hit;subst hit;have cb:∀ q:Wire.St,(Wire.cntR q 1).2≤q.rest.length:=fun q=>Wire.cntR_cnt q
 refine hv12 (fun e2=>?_) (fun e2=>?_)
 ·have gY:Gs 123 3 0 ⟨[],t⟩ (([]:List Sf.Pend).map Sf.Pend.cells) (.sl 0 .nil (([]:List Sf.Pend).map Sf.Pend.cells)):=.inl ⟨rfl,rfl⟩;refine azb (ai t0 (ai t2 (ai t3 (ai ta (ai tb (ai hlt e2)))))) ?_;obtain⟨q,hq⟩:=Ex p;obtain⟨ps,hps⟩:∃ ps:List Sf.Pend,[]=ps:=⟨_,rfl⟩;have fin2:=fin2 rfl;have hv0:ver≠2:=by simpa using e2
  subst hq;obtain⟨q,hq⟩:=Ex p;rw[hq]at hpl ⊢;obtain⟨⟨rc3,c3⟩,hc3⟩:=Ex (Wire.cntR q.r 1);have lc3:=Wire.cntR_rest q.r 1;have lk3:=Wire.cntR_cnt q.r;rw[hc3]at lc3 lk3;dsimp only at lc3 lk3;obtain⟨res3,hres3⟩:=Ex (Sf.outsS c3 ⟨rc3,q.bad⟩ []);have fin3:∀ {r3:Sf.Rs×List Sf.Outp×Bool},r3=res3→Sf.stateS ver s=(r3.1,⟨x1,x2,is,ps,r3.2.1⟩):=fun e=>by rw[e];exact fin2 q ps rc3 c3 (by rw[if_neg hv0,hq,hps]) hc3 hres3
  obtain⟨W2,o2,hW2⟩:∃(W2:Nat) (o2:Own),W2=0∧o2=.nil:=⟨_,_,rfl,rfl⟩;have hY0:(A.sl 0 .nil []:A)=.sl W2 o2 (ps.map Sf.Pend.cells):=by rw[hW2.1,hW2.2,←hps];rfl
  rw[hps]at gY;have gY:Gs 123 3 0 ⟨[],t⟩ (ps.map Sf.Pend.cells) (.sl W2 o2 (ps.map Sf.Pend.cells)):=by rw[hW2.1,hW2.2];exact gY
  refine use (cnt q.r rc3 c3 _ hc3 rfl (by omega)) ?_;refine azb (ai t0 (ai t2 t3)) ?_;refine azf (fun mm ts h=>∃(j:Nat) (p:Sf.Rs) (os:List Sf.Outp) (W3:Nat) (o3:Own) (l:List Blk) (t:List (TypeId×Nat×Nat)),mm=c3-j∧j≤c3∧h=⟨.cells 188 [.ptr 1 0,.int .i64 ver,.bool p.bad]::rdr p.r :: .cells 35 [.str [],.int .i64 0,.sl 0 .nil [],.sl 0 .nil [],.sl 0 .nil []] :: .cells 35 [.str x1,.int .i64 x2,(.sl W o (is.map Sf.Inst.cells)),(.sl W2 o2 (ps.map Sf.Pend.cells)),(.sl W3 o3 (os.map Sf.Outp.cells))]::l,t⟩∧Sf.outsS (c3-j) p os=res3∧os.length=j∧p.r.rest.length≤100000000∧Gs 43 13 0 ⟨[],t⟩ (is.map Sf.Inst.cells) (.sl W o (is.map Sf.Inst.cells))∧Gs 123 3 0 ⟨[],t⟩ (ps.map Sf.Pend.cells) (.sl W2 o2 (ps.map Sf.Pend.cells))∧Gs 94 7 0 ⟨[],t⟩ (os.map Sf.Outp.cells) (.sl W3 o3 (os.map Sf.Outp.cells))∧ts 0=.ptr 0 0∧ts 2=.ptr 2 0∧ts 3=.ptr 3 0∧ts 72=.int .i64 (c3:Nat)∧ts 73=.int .i64 (j:Nat)) c3 ?_ ?_
  ·exact⟨0,⟨rc3,q.bad⟩,[],0,.nil,[],t,by omega,by omega,(by rw[←hY0];rfl),hres3,rfl,(by dsimp only;omega),gX,gY,.inl ⟨rfl,rfl⟩,by(exact ev0 t0),by(exact ev0 t2),by(exact ev0 t3),by(exact ev0 ti),by(exact azq ti)⟩
  rintro mm ts h ⟨j,p,os,W3,o3,l,t,rfl,hjc,rfl,hit,hdl,hpl,gX,gY,gZ,t0,t2,t3,ta,tb⟩;by_cases hj:j<c3
  ·have cf:=akf (ver:=ver) p (.cells 35 [.str [],.int .i64 0,.sl 0 .nil [],.sl 0 .nil [],.sl 0 .nil []] :: .cells 35 [.str x1,.int .i64 x2,(.sl W o (is.map Sf.Inst.cells)),(.sl W2 o2 (ps.map Sf.Pend.cells)),(.sl W3 o3 (os.map Sf.Outp.cells))]::l) t;unfold RB at cf;have hlt:(j:Int)<(c3:Int):=by omega
   have ei:IntKind.i64.wrap ((j:Int)+1)=((j+1:Nat):Int):=by rw[wrap64 (by omega) (by omega)];omega
   rw[show c3-j=(c3-(j+1))+1 by omega]at hit;unfold Sf.outsS at hit;refine azb (ai t0 (ai t2 (ai t3 (ai ta (ai tb hlt))))) ?_;refine use cf ?_;rcases azl p.fails with e|e
   ·rw[e,if_pos rfl]at hit;rw[e];refine azb (ai t0 (ai t2 (ai t3 (ai ta tb)))) ?_;subst hit;have hfin:=fin3 rfl;exact⟨.agg [.str x1,.int .i64 x2,.sl 13 .no (is.map Sf.Inst.cells),.sl 3 .no (ps.map Sf.Pend.cells),.sl 7 .no (os.map Sf.Outp.cells)],⟨aza _,aza _,Gs.le gX,Gs.le gY,Gs.le gZ,trivial⟩,by rw[hfin];rfl,by rw[hfin];rfl,by rw[hfin];rfl⟩
   rw[e,if_neg (by decide)]at hit;rw[e];refine azb (ai t0 (ai t2 (ai t3 (ai ta tb)))) ?_;obtain⟨⟨q1,y1⟩,g1⟩:=Ex (Wire.strR p.r);have m1:=Wire.strR_rest p.r;rw[g1]at m1;dsimp only at m1;refine use (str p.r q1 y1 _ g1 rfl hpl) ?_;refine azb (ai t0 (ai t2 (ai t3 (ai ta tb)))) ?_;have cv:=bqb (ver:=ver) ⟨q1,p.bad⟩ (by dsimp only;omega) (.cells 35 [.str [],.int .i64 0,.sl 0 .nil [],.sl 0 .nil [],.sl 0 .nil []] :: .cells 35 [.str x1,.int .i64 x2,(.sl W o (is.map Sf.Inst.cells)),(.sl W2 o2 (ps.map Sf.Pend.cells)),(.sl W3 o3 (os.map Sf.Outp.cells))]::(l++[.cells 94 [.str y1,.int .i64 0,.int .i64 0,.str [],.sl 0 .nil [],.sl 0 .nil [],.bool false]])) t;have m2:=Sf.valueS_le ⟨q1,p.bad⟩;obtain⟨⟨⟨q2,b2⟩,y2⟩,g2⟩:=Ex (Sf.valueS ⟨q1,p.bad⟩);rw[g2]at cv m2;dsimp only at cv m2;obtain⟨⟨⟨q3,b3⟩,y3⟩,g3⟩:=Ex (Sf.flagS ⟨q2,b2⟩);have m3:=Sf.flagS_le ⟨q2,b2⟩;rw[g3]at m3;dsimp only at m3;have ho:Sf.outS p=(⟨q3,b3⟩,⟨y1,y2,y3⟩):=by unfold Sf.outS Sf.strS;simp only[g1,g2,g3]
   rw[ho]at hit;dsimp only at hit;obtain⟨x,hxe⟩:∃ x:Sf.Outp,x=⟨y1,y2,y3⟩:=⟨_,rfl⟩;rw[←hxe]at hit;obtain⟨W',o',t',hX,gZ',kZ⟩:=gZ.grow 104 x.cells (by rw[Zj];omega) (by decide);have gX':=kZ _ _ _ _ (by decide) gX;have gY':=kZ _ _ _ _ (by decide) gY;have em:os.map Sf.Outp.cells++[x.cells]=(os++[x]).map Sf.Outp.cells:=by simp
   rw[em]at gZ';simp only[em]at hX;have hil:(os++[x]).length=j+1:=by simp[hdl]
   obtain⟨os2,hi2⟩:=Ex (os++[x]);rw[hi2]at hX gZ' hit hil;clear em hi2;subst hxe;obtain⟨k,n,w,vi,vy⟩:=y2;have hVA:(V.mk k n w vi vy).A=.agg [.int .i64 k,.int .i64 n,.str w,.sl 5 .no (V.cellss vi),.sl 1 .no (strsA vy)]:=by simp only[V.A,V.cells]
   rw[hVA]at cv;unfold RB at cv;simp only[Sf.Outp.cells]at hX;refine use cv ?_;refine azb (ai t0 (ai t2 (ai t3 (ai ta tb)))) ?_;have cg:=ay6 (ver:=ver) ⟨q2,b2⟩ (by dsimp only;omega) (.cells 35 [.str [],.int .i64 0,.sl 0 .nil [],.sl 0 .nil [],.sl 0 .nil []] :: .cells 35 [.str x1,.int .i64 x2,(.sl W o (is.map Sf.Inst.cells)),(.sl W2 o2 (ps.map Sf.Pend.cells)),(.sl W3 o3 (os.map Sf.Outp.cells))]::(l++[.cells 94 [.str y1,.int .i64 k,.int .i64 n,.str w,.sl 5 .no (V.cellss vi),.sl 1 .no (strsA vy),.bool false]])) t;rw[g3]at cg;dsimp only at cg;unfold RB at cg;refine use cg ?_;refine azb (ai t0 (ai t2 (ai t3 (ai ta (ai tb (ai hX ei)))))) ?_;exact⟨c3-(j+1),by omega,j+1,⟨q3,b3⟩,os2,W',o',l++[.cells 94 [.str y1,.int .i64 k,.int .i64 n,.str w,.sl 5 .no (V.cellss vi),.sl 1 .no (strsA vy),.bool y3]],t',rfl,by omega,rfl,hit,hil,(by dsimp only;omega),gX',gY',gZ',by(exact ev0 t0),by(exact ev0 t2),by(exact ev0 t3),by(exact ev0 ta),by(exact ev0 ei)⟩
  have hlt:¬((j:Int)<(c3:Int)):=by omega
  rw[show c3-j=0 by omega]at hit;unfold Sf.outsS at hit;subst hit;refine azb (ai t0 (ai t2 (ai t3 (ai ta (ai tb hlt))))) ?_;have hfin:=fin3 rfl;exact⟨.agg [.str x1,.int .i64 x2,.sl 13 .no (is.map Sf.Inst.cells),.sl 3 .no (ps.map Sf.Pend.cells),.sl 7 .no (os.map Sf.Outp.cells)],⟨aza _,aza _,Gs.le gX,Gs.le gY,Gs.le gZ,trivial⟩,by rw[hfin];rfl,by rw[hfin];rfl,by rw[hfin];rfl⟩
 ·obtain⟨⟨rc2,c2⟩,hc2⟩:=Ex (Wire.cntR p.r 1);have lc2:=Wire.cntR_rest p.r 1;have lk2:=Wire.cntR_cnt p.r;rw[hc2]at lc2 lk2;dsimp only at lc2 lk2;obtain⟨res2,hres2⟩:=Ex (Sf.pendsS c2 ⟨rc2,p.bad⟩ []);have hv2:ver=2:=by simpa using e2
  have fin2:=fin2 rfl;have hp2:(if ver=2 then Sf.pendsS (Sf.cntS p).2 (Sf.cntS p).1 []else(p,[]))=res2:=by rw[if_pos hv2];unfold Sf.cntS;rw[hc2];exact hres2
  rw[hp2]at fin2;refine azb (ai t0 (ai t2 (ai t3 (ai ta (ai tb (ai hlt e2)))))) ?_;refine use (cnt p.r rc2 c2 _ hc2 rfl (by omega)) ?_;refine azb (ai t0 (ai t2 t3)) ?_;refine azf (fun mm ts h=>∃(j:Nat) (p:Sf.Rs) (ps:List Sf.Pend) (W2:Nat) (o2:Own) (t:List (TypeId×Nat×Nat)),mm=c2-j∧j≤c2∧h=⟨[.cells 188 [.ptr 1 0,.int .i64 ver,.bool p.bad],rdr p.r,.cells 35 [.str [],.int .i64 0,.sl 0 .nil [],.sl 0 .nil [],.sl 0 .nil []],.cells 35 [.str x1,.int .i64 x2,(.sl W o (is.map Sf.Inst.cells)),(.sl W2 o2 (ps.map Sf.Pend.cells)),.sl 0 .nil []]],t⟩∧Sf.pendsS (c2-j) p ps=res2∧ps.length=j∧p.r.rest.length≤100000000∧Gs 43 13 0 ⟨[],t⟩ (is.map Sf.Inst.cells) (.sl W o (is.map Sf.Inst.cells))∧Gs 123 3 0 ⟨[],t⟩ (ps.map Sf.Pend.cells) (.sl W2 o2 (ps.map Sf.Pend.cells))∧ts 0=.ptr 0 0∧ts 2=.ptr 2 0∧ts 3=.ptr 3 0∧ts 43=.int .i64 (c2:Nat)∧ts 44=.int .i64 (j:Nat)) c2 ?_ ?_
  ·exact⟨0,⟨rc2,p.bad⟩,[],0,.nil,t,by omega,by omega,rfl,hres2,rfl,(by dsimp only;omega),gX,.inl ⟨rfl,rfl⟩,by(exact ev0 t0),by(exact ev0 t2),by(exact ev0 t3),by(exact ev0 ti),by(exact azq ti)⟩
  rintro mm ts h ⟨j,q,ps,W2,o2,t,rfl,hjc,rfl,hit,hdl,hpl,gX,gY,t0,t2,t3,ta,tb⟩;by_cases hj:j<c2
  ·have hq:=hpl;have hlt:(j:Int)<(c2:Int):=by omega
   have ei:IntKind.i64.wrap ((j:Int)+1)=((j+1:Nat):Int):=by rw[wrap64 (by omega) (by omega)];omega
   rw[show c2-j=(c2-(j+1))+1 by omega]at hit;unfold Sf.pendsS at hit;obtain⟨⟨q1,y1⟩,g1⟩:=Ex (Wire.strR q.r);have m1:=Wire.strR_rest q.r;rw[g1]at m1;dsimp only at m1;obtain⟨⟨q2,y2⟩,g2⟩:=Ex (Wire.strR q1);have m2:=Wire.strR_rest q1;rw[g2]at m2;dsimp only at m2;obtain⟨⟨q3,y3⟩,g3⟩:=Ex (Wire.strR q2);have m3:=Wire.strR_rest q2;rw[g3]at m3;dsimp only at m3;have ho:Sf.pendS q=(⟨q3,q.bad⟩,⟨y1,y2,y3⟩):=by unfold Sf.pendS Sf.strS;simp only[g1,g2,g3]
   rw[ho]at hit;dsimp only at hit;obtain⟨x,hxe⟩:∃ x:Sf.Pend,x=⟨y1,y2,y3⟩:=⟨_,rfl⟩;rw[←hxe]at hit;obtain⟨W',o',t',hX,gY',kY⟩:=gY.grow 48 x.cells (by rw[Zj];omega) (by decide);have gX':=kY _ _ _ _ (by decide) gX;have em:ps.map Sf.Pend.cells++[x.cells]=(ps++[x]).map Sf.Pend.cells:=by simp
   rw[em]at gY';simp only[em]at hX;have hil:(ps++[x]).length=j+1:=by simp[hdl]
   obtain⟨ps2,hi2⟩:=Ex (ps++[x]);rw[hi2]at hX gY' hit hil;clear em hi2;subst hxe;simp only[Sf.Pend.cells]at hX;refine azb (ai t0 (ai t2 (ai t3 (ai ta (ai tb hlt))))) ?_;refine use (str q.r q1 y1 _ g1 rfl hpl) ?_;refine azb (ai t0 (ai t2 (ai t3 (ai ta tb)))) ?_;refine use (str q1 q2 y2 _ g2 rfl (by omega)) ?_;refine azb (ai t0 (ai t2 (ai t3 (ai ta tb)))) ?_;refine use (str q2 q3 y3 _ g3 rfl (by omega)) ?_;refine azb (ai t0 (ai t2 (ai t3 (ai ta (ai tb (ai hX ei)))))) ?_;exact⟨c2-(j+1),by omega,j+1,⟨q3,q.bad⟩,ps2,W',o',t',rfl,by omega,rfl,hit,hil,(by dsimp only;omega),gX',gY',by(exact ev0 t0),by(exact ev0 t2),by(exact ev0 t3),by(exact ev0 ta),by(exact ev0 ei)⟩
  have hlt:¬((j:Int)<(c2:Int)):=by omega
  rw[show c2-j=0 by omega]at hit;unfold Sf.pendsS at hit;subst hit;obtain⟨⟨rc3,c3⟩,hc3⟩:=Ex (Wire.cntR q.r 1);have lc3:=Wire.cntR_rest q.r 1;have lk3:=Wire.cntR_cnt q.r;rw[hc3]at lc3 lk3;dsimp only at lc3 lk3;obtain⟨res3,hres3⟩:=Ex (Sf.outsS c3 ⟨rc3,q.bad⟩ []);have fin3:∀ {r3:Sf.Rs×List Sf.Outp×Bool},r3=res3→Sf.stateS ver s=(r3.1,⟨x1,x2,is,ps,r3.2.1⟩):=fun e=>by rw[e];exact fin2 q ps rc3 c3 rfl hc3 hres3
  refine azb (ai t0 (ai t2 (ai t3 (ai ta (ai tb hlt))))) ?_;refine use (cnt q.r rc3 c3 _ hc3 rfl (by omega)) ?_;refine azb (ai t0 (ai t2 t3)) ?_;refine azf (fun mm ts h=>∃(j:Nat) (p:Sf.Rs) (os:List Sf.Outp) (W3:Nat) (o3:Own) (l:List Blk) (t:List (TypeId×Nat×Nat)),mm=c3-j∧j≤c3∧h=⟨.cells 188 [.ptr 1 0,.int .i64 ver,.bool p.bad]::rdr p.r :: .cells 35 [.str [],.int .i64 0,.sl 0 .nil [],.sl 0 .nil [],.sl 0 .nil []] :: .cells 35 [.str x1,.int .i64 x2,(.sl W o (is.map Sf.Inst.cells)),(.sl W2 o2 (ps.map Sf.Pend.cells)),(.sl W3 o3 (os.map Sf.Outp.cells))]::l,t⟩∧Sf.outsS (c3-j) p os=res3∧os.length=j∧p.r.rest.length≤100000000∧Gs 43 13 0 ⟨[],t⟩ (is.map Sf.Inst.cells) (.sl W o (is.map Sf.Inst.cells))∧Gs 123 3 0 ⟨[],t⟩ (ps.map Sf.Pend.cells) (.sl W2 o2 (ps.map Sf.Pend.cells))∧Gs 94 7 0 ⟨[],t⟩ (os.map Sf.Outp.cells) (.sl W3 o3 (os.map Sf.Outp.cells))∧ts 0=.ptr 0 0∧ts 2=.ptr 2 0∧ts 3=.ptr 3 0∧ts 72=.int .i64 (c3:Nat)∧ts 73=.int .i64 (j:Nat)) c3 ?_ ?_
  ·exact⟨0,⟨rc3,q.bad⟩,[],0,.nil,[],t,by omega,by omega,rfl,hres3,rfl,(by dsimp only;omega),gX,gY,.inl ⟨rfl,rfl⟩,by(exact ev0 t0),by(exact ev0 t2),by(exact ev0 t3),by(exact ev0 ti),by(exact azq ti)⟩
  rintro mm ts h ⟨j,p,os,W3,o3,l,t,rfl,hjc,rfl,hit,hdl,hpl,gX,gY,gZ,t0,t2,t3,ta,tb⟩;by_cases hj:j<c3
  ·have cf:=akf (ver:=ver) p (.cells 35 [.str [],.int .i64 0,.sl 0 .nil [],.sl 0 .nil [],.sl 0 .nil []] :: .cells 35 [.str x1,.int .i64 x2,(.sl W o (is.map Sf.Inst.cells)),(.sl W2 o2 (ps.map Sf.Pend.cells)),(.sl W3 o3 (os.map Sf.Outp.cells))]::l) t;unfold RB at cf;have hlt:(j:Int)<(c3:Int):=by omega
   have ei:IntKind.i64.wrap ((j:Int)+1)=((j+1:Nat):Int):=by rw[wrap64 (by omega) (by omega)];omega
   rw[show c3-j=(c3-(j+1))+1 by omega]at hit;unfold Sf.outsS at hit;refine azb (ai t0 (ai t2 (ai t3 (ai ta (ai tb hlt))))) ?_;refine use cf ?_;rcases azl p.fails with e|e
   ·rw[e,if_pos rfl]at hit;rw[e];refine azb (ai t0 (ai t2 (ai t3 (ai ta tb)))) ?_;subst hit;have hfin:=fin3 rfl;exact⟨.agg [.str x1,.int .i64 x2,.sl 13 .no (is.map Sf.Inst.cells),.sl 3 .no (ps.map Sf.Pend.cells),.sl 7 .no (os.map Sf.Outp.cells)],⟨aza _,aza _,Gs.le gX,Gs.le gY,Gs.le gZ,trivial⟩,by rw[hfin];rfl,by rw[hfin];rfl,by rw[hfin];rfl⟩
   rw[e,if_neg (by decide)]at hit;rw[e];refine azb (ai t0 (ai t2 (ai t3 (ai ta tb)))) ?_;obtain⟨⟨q1,y1⟩,g1⟩:=Ex (Wire.strR p.r);have m1:=Wire.strR_rest p.r;rw[g1]at m1;dsimp only at m1;refine use (str p.r q1 y1 _ g1 rfl hpl) ?_;refine azb (ai t0 (ai t2 (ai t3 (ai ta tb)))) ?_;have cv:=bqb (ver:=ver) ⟨q1,p.bad⟩ (by dsimp only;omega) (.cells 35 [.str [],.int .i64 0,.sl 0 .nil [],.sl 0 .nil [],.sl 0 .nil []] :: .cells 35 [.str x1,.int .i64 x2,(.sl W o (is.map Sf.Inst.cells)),(.sl W2 o2 (ps.map Sf.Pend.cells)),(.sl W3 o3 (os.map Sf.Outp.cells))]::(l++[.cells 94 [.str y1,.int .i64 0,.int .i64 0,.str [],.sl 0 .nil [],.sl 0 .nil [],.bool false]])) t;have m2:=Sf.valueS_le ⟨q1,p.bad⟩;obtain⟨⟨⟨q2,b2⟩,y2⟩,g2⟩:=Ex (Sf.valueS ⟨q1,p.bad⟩);rw[g2]at cv m2;dsimp only at cv m2;obtain⟨⟨⟨q3,b3⟩,y3⟩,g3⟩:=Ex (Sf.flagS ⟨q2,b2⟩);have m3:=Sf.flagS_le ⟨q2,b2⟩;rw[g3]at m3;dsimp only at m3;have ho:Sf.outS p=(⟨q3,b3⟩,⟨y1,y2,y3⟩):=by unfold Sf.outS Sf.strS;simp only[g1,g2,g3]
   rw[ho]at hit;dsimp only at hit;obtain⟨x,hxe⟩:∃ x:Sf.Outp,x=⟨y1,y2,y3⟩:=⟨_,rfl⟩;rw[←hxe]at hit;obtain⟨W',o',t',hX,gZ',kZ⟩:=gZ.grow 104 x.cells (by rw[Zj];omega) (by decide);have gX':=kZ _ _ _ _ (by decide) gX;have gY':=kZ _ _ _ _ (by decide) gY;have em:os.map Sf.Outp.cells++[x.cells]=(os++[x]).map Sf.Outp.cells:=by simp
   rw[em]at gZ';simp only[em]at hX;have hil:(os++[x]).length=j+1:=by simp[hdl]
   obtain⟨os2,hi2⟩:=Ex (os++[x]);rw[hi2]at hX gZ' hit hil;clear em hi2;subst hxe;obtain⟨k,n,w,vi,vy⟩:=y2;have hVA:(V.mk k n w vi vy).A=.agg [.int .i64 k,.int .i64 n,.str w,.sl 5 .no (V.cellss vi),.sl 1 .no (strsA vy)]:=by simp only[V.A,V.cells]
   rw[hVA]at cv;unfold RB at cv;simp only[Sf.Outp.cells]at hX;refine use cv ?_;refine azb (ai t0 (ai t2 (ai t3 (ai ta tb)))) ?_;have cg:=ay6 (ver:=ver) ⟨q2,b2⟩ (by dsimp only;omega) (.cells 35 [.str [],.int .i64 0,.sl 0 .nil [],.sl 0 .nil [],.sl 0 .nil []] :: .cells 35 [.str x1,.int .i64 x2,(.sl W o (is.map Sf.Inst.cells)),(.sl W2 o2 (ps.map Sf.Pend.cells)),(.sl W3 o3 (os.map Sf.Outp.cells))]::(l++[.cells 94 [.str y1,.int .i64 k,.int .i64 n,.str w,.sl 5 .no (V.cellss vi),.sl 1 .no (strsA vy),.bool false]])) t;rw[g3]at cg;dsimp only at cg;unfold RB at cg;refine use cg ?_;refine azb (ai t0 (ai t2 (ai t3 (ai ta (ai tb (ai hX ei)))))) ?_;exact⟨c3-(j+1),by omega,j+1,⟨q3,b3⟩,os2,W',o',l++[.cells 94 [.str y1,.int .i64 k,.int .i64 n,.str w,.sl 5 .no (V.cellss vi),.sl 1 .no (strsA vy),.bool y3]],t',rfl,by omega,rfl,hit,hil,(by dsimp only;omega),gX',gY',gZ',by(exact ev0 t0),by(exact ev0 t2),by(exact ev0 t3),by(exact ev0 ta),by(exact ev0 ei)⟩
  have hlt:¬((j:Int)<(c3:Int)):=by omega
  rw[show c3-j=0 by omega]at hit;unfold Sf.outsS at hit;subst hit;refine azb (ai t0 (ai t2 (ai t3 (ai ta (ai tb hlt))))) ?_;have hfin:=fin3 rfl;exact⟨.agg [.str x1,.int .i64 x2,.sl 13 .no (is.map Sf.Inst.cells),.sl 3 .no (ps.map Sf.Pend.cells),.sl 7 .no (os.map Sf.Outp.cells)],⟨aza _,aza _,Gs.le gX,Gs.le gY,Gs.le gZ,trivial⟩,by rw[hfin];rfl,by rw[hfin];rfl,by rw[hfin];rfl⟩
theorem awc(ver:Int)(l:List UInt8):(wtr ver l).loc 0:=by
 intro o x h;simp only[wtr]at h;split at h
 ·injection h with h;subst h;rfl
 ·cases h
theorem liftW{f:FuncId}{args:List A}{ver:Int}{l l':List UInt8}(hl':l'≠[])(hc:AC f (.ptr 0 0::args) ⟨[wtr ver l],[]⟩ fun u h'=>u=.tup []∧WP 0 ver l' ⟨[wtr ver l],[]⟩ h')(ha:A.locL 0 args=true){h:Hp}{i:Nat}(hb:h.b[i]?=some (wtr ver l)) :
  AC f (.ptr i 0::args) h fun u h'=>u=.tup []∧h'=⟨h.b.set i (wtr ver l'),h.t⟩:=by
 have h1:AC f (.ptr 0 0::args) ⟨[wtr ver l],[]⟩ fun u h'=>∃ b',h'.b[0]?=some b'∧u=.tup []∧b'=wtr ver l':=hc.mono fun u h' ⟨e,hp⟩=>⟨wtr ver l',WP.bx hp hl',e,rfl⟩
 refine(ACall.lift1 h1 ha (awc ver l) ?_ hb).mono ?_
 ·rintro u b' ⟨rfl,rfl⟩;exact⟨rfl,awc ver l'⟩
 ·rintro u h' ⟨b',⟨rfl,rfl⟩,rfl⟩;exact⟨rfl,rfl⟩
theorem cqc(n:Int):Wire.num n≠[]:=by
 have:=(Wire.encF_len 9 (Wire.zig n)).1;intro e;have h:(Wire.num n).length=0:=by rw[e];rfl
 unfold Wire.num at h;omega
theorem byk{a b:List UInt8}(h:b≠[]):a++b≠[]:=by simp[h]
theorem byg(s:List UInt8):Wire.strE s≠[]:=by
 unfold Wire.strE;intro e;exact cqc _ (List.append_eq_nil_iff.1 e).1
theorem wn{h:Hp}{i:Nat}{ver:Int}{l:List UInt8}(hb:h.b[i]?=some (wtr ver l))(n:Int)(hlen:l.length+10≤1000000000)(h0:-9223372036854775808≤n)(h1:n≤9223372036854775807) :
  AC 123 [.ptr i 0,.int .i64 n] h fun u h'=>u=.tup []∧h'=⟨h.b.set i (wtr ver (l++Wire.num n)),h.t⟩:=
 liftW (byk (cqc n)) (bxc (h:=⟨[wtr ver l],[]⟩) (.inl rfl) n hlen h0 h1) rfl hb
theorem wt{h:Hp}{i:Nat}{ver:Int}{l:List UInt8}(hb:h.b[i]?=some (wtr ver l))(s:List UInt8)(hlen:l.length+s.length+10≤1000000000) :
  AC 124 [.ptr i 0,.str s] h fun u h'=>u=.tup []∧h'=⟨h.b.set i (wtr ver (l++Wire.strE s)),h.t⟩:=
 liftW (byk (byg s)) (bjh (h:=⟨[wtr ver l],[]⟩) (.inl rfl) s hlen) rfl hb
theorem wv{h:Hp}{i:Nat}{ver:Int}{l:List UInt8}(hb:h.b[i]?=some (wtr ver l))(v:V)(hz:∃ lv b,(Val.chk v lv b).1=0)(hlen:l.length+(Val.enc v).length+10≤1000000000)(hv:v.lens) :
  AC 92 [.ptr i 0,v.A] h fun u h'=>u=.tup []∧h'=⟨h.b.set i (wtr ver (l++Val.enc v)),h.t⟩:=
 liftW (byk (ckc v)) (cq8 v 0 ver l ⟨[wtr ver l],[]⟩ (.inl rfl) hz hlen hv) (by obtain⟨k,n,s,is,ks⟩:=v;rfl) hb
theorem wf{h:Hp}{i:Nat}{ver:Int}{l:List UInt8}(hb:h.b[i]?=some (wtr ver l))(b:Bool)(hlen:l.length+10≤1000000000) :
  AC 126 [.ptr i 0,.bool b] h fun u h'=>u=.tup []∧h'=⟨h.b.set i (wtr ver (l++Sf.flagE b)),h.t⟩:=by
 refine fo ?_;cases b
 ·refine azb ti ?_;refine use (wn hb _ hlen (by decide) (by decide)) ?_;refine azb ti ?_;exact⟨_,le_refl _,rfl,rfl⟩
 ·refine azb ti ?_;refine use (wn hb _ hlen (by decide) (by decide)) ?_;refine azb ti ?_;exact⟨_,le_refl _,rfl,rfl⟩
structure Sf.InstOk(x:Sf.Inst):Prop where
 z:∃ lv b,(Val.chk x.attrs lv b).1=0
 lens:x.attrs.lens
 v0:-9223372036854775808≤x.ver
 v1:x.ver≤9223372036854775807
theorem aqs(s:List UInt8):s.length≤(Wire.strE s).length:=by unfold Wire.strE;rw[Za];omega
theorem ajh(ds:List (List UInt8))(j:Nat)(hj:j<ds.length):Sf.wordsE (ds.take (j+1))=Sf.wordsE (ds.take j)++Wire.strE ds[j]:=by
 unfold Sf.wordsE;rw[ZW hj,Yp];simp
theorem avf(ds:List (List UInt8))(j:Nat):(Sf.wordsE (ds.take j)).length≤(Sf.wordsE ds).length:=by
 have:Sf.wordsE ds=Sf.wordsE (ds.take j)++Sf.wordsE (ds.drop j):=by unfold Sf.wordsE;rw[←Yp,Yj]
 rw[this,Za];omega
theorem dzy{ver:Int}(hver:ver=1∨ver=2)(x:Sf.Inst)(hx:Sf.InstOk x)(l:List UInt8)(hlen:l.length+(Sf.instE ver x).length+20≤1000000000){h:Hp}{i:Nat}(hb:h.b[i]?=some (wtr ver l)) :
  AC 125 [.ptr i 0,.agg x.cells] h fun u h'=>u=.tup []∧h'=⟨h.b.set i (wtr ver (l++Sf.instE ver x)),h.t⟩:=by
 have key:AC 125 [.ptr 0 0,.agg x.cells] ⟨[wtr ver l],[]⟩ fun u h'=>∃ b',h'.b[0]?=some b'∧u=.tup []∧b'=wtr ver (l++Sf.instE ver x):=by
  have hz:=hx.z;have hl:=hx.lens;have v0:=hx.v0;have v1:=hx.v1;obtain⟨a,d,id,ty,⟨k,n,s,is,ks⟩,v,tn,fi,ds⟩:=x;have hE:Sf.instE ver ⟨a,d,id,ty,.mk k n s is ks,v,tn,fi,ds⟩=Wire.strE a++Wire.strE d++Wire.strE id++Wire.strE ty++Val.enc (.mk k n s is ks)++Wire.num v++Sf.flagE tn++(if ver=2 then Sf.flagE fi else[])++Wire.num ds.length++Sf.wordsE ds:=rfl;rw[hE]at hlen ⊢;have la:=aqs a;have lb:=aqs d;have lc:=aqs id;have ld:=aqs ty;have hVA:(V.mk k n s is ks).A=.agg [.int .i64 k,.int .i64 n,.str s,.sl 5 .no (V.cellss is),.sl 1 .no (strsA ks)]:=by simp only[V.A,V.cells]
  have cv:=fun(m:List UInt8) (h:Hp) (hb:h.b[0]?=some (wtr ver m)) (hm:m.length+(Val.enc (.mk k n s is ks)).length+10≤1000000000)=>wv hb (.mk k n s is ks) hz hm hl
  rw[hVA]at cv;simp only[Za]at hlen;obtain⟨F,hF⟩:=Ex ((if ver=2 then Sf.flagE fi else[]));rw[hF]at hlen ⊢;have hdl:ds.length≤1000000000:=by
   have:∀ l:List (List UInt8),l.length≤(Sf.wordsE l).length:=by
    intro l;induction l with
    |nil=>simp
    |cons x l ih =>
     have h1:Sf.wordsE (x::l)=Wire.strE x++Sf.wordsE l:=by simp[Sf.wordsE]
     have h2:(Wire.strE x).length≠0:=fun e=>byg x (Y5.1 e)
     rw[h1,Za,Zh];omega
   have:=this ds;omega
  refine fo ?_;dsimp only[Sf.Inst.cells];refine azb ti ?_;refine use (wt rfl a (by omega)) ?_;refine azb ti ?_;refine use (wt rfl d (by simp only[Za];omega)) ?_;refine azb ti ?_;refine use (wt rfl id (by simp only[Za];omega)) ?_;refine azb ti ?_;refine use (wt rfl ty (by simp only[Za];omega)) ?_;refine azb ti ?_;refine use (cv _ _ rfl (by simp only[Za];omega)) ?_;refine azb ti ?_;refine use (wn rfl v (by simp only[Za];omega) v0 v1) ?_;refine azb ti ?_;refine use (wf rfl tn (by simp only[Za];omega)) ?_;have hv12:∀ {G:Prop},((ver==2)=false→F=[]→G)→((ver==2)=true→F=Sf.flagE fi→G)→G:=fun p q=>by
   rcases hver with rfl|rfl
   ·rw[if_neg (by decide)]at hF;exact p rfl hF.symm
   ·rw[if_pos rfl]at hF;exact q rfl hF.symm
  refine hv12 (fun e2 eF=>?_) (fun e2 eF=>?_);all_goals subst eF
  ·refine azb (ai @cy2 (ai e2 @aze)) ?_;refine use (wn rfl _ (by simp only[Za];omega) (by omega) (by omega)) ?_;refine azb @aze ?_;refine azf (fun mm ts h=>∃ j:Nat,mm=ds.length-j∧j≤ds.length∧h=⟨[wtr ver (l++Wire.strE a++Wire.strE d++Wire.strE id++Wire.strE ty++Val.enc (.mk k n s is ks)++Wire.num v++Sf.flagE tn++Wire.num ds.length++Sf.wordsE (ds.take j)),.cells 43 [.str a,.str d,.str id,.str ty,.int .i64 k,.int .i64 n,.str s,.sl 5 .no (V.cellss is),.sl 1 .no (strsA ks),.int .i64 v,.bool tn,.bool fi,.sl 1 .no (strsA ds)]],[]⟩∧ts 0=.ptr 0 0∧ts 49=.sl 1 .no (strsA ds)∧ts 50=.int .i64 (ds.length:Nat)∧ts 51=.int .i64 (j:Nat)) ds.length ?_ ?_
   ·exact⟨0,by omega,by omega,by simp only[Sf.wordsE,Yl,Zai,Zr],by(exact ev0 ti),by(exact ev0 ti),by(exact ev0 @aze),by(exact azq ti)⟩
   ·rintro mm ts h ⟨j,rfl,hjc,rfl,t0,t49,t50,t51⟩;by_cases hj:j<ds.length
    ·have hlt:(j:Int)<(ds.length:Int):=by omega
     have ei:IntKind.i64.wrap ((j:Int)+1)=((j+1:Nat):Int):=by rw[wrap64 (by omega) (by omega)];omega
     have hg:=azv ds j hj;have hlt':(j:Int)<((strsA ds).length:Int):=by rw[aze];exact hlt
     have hj0:(0:Int)≤(j:Int):=by omega
     have ht:=avf ds (j+1);rw[ajh ds j hj,Za]at ht;have hsl:=aqs ds[j];refine azb (ai t0 (ai t49 (ai t50 (ai t51 (ai hlt (ai hg (ai hlt' hj0))))))) ?_;refine use (wt rfl ds[j] (by simp only[Za];omega)) ?_;refine azb (ai t0 (ai t49 (ai t50 (ai t51 ei)))) ?_;exact⟨ds.length-(j+1),by omega,j+1,rfl,by omega,by rw[ajh ds j hj];simp only[Zg],by(exact ev0 t0),by(exact ev0 t49),by(exact ev0 t50),by(exact ev0 ei)⟩
    ·have hlt:¬((j:Int)<(ds.length:Int)):=by omega
     have hjl:j=ds.length:=by omega
     subst hjl;refine azb (ai t0 (ai t49 (ai t50 (ai t51 hlt)))) ?_;exact⟨_,le_refl _,_,rfl,rfl,by simp only[Yk,Zg,Zi]⟩
  ·refine azb (ai @cy2 e2) ?_;refine use (wf rfl fi (by simp only[Za];omega)) ?_;refine azb @aze ?_;refine use (wn rfl _ (by simp only[Za];omega) (by omega) (by omega)) ?_;refine azb @aze ?_;refine azf (fun mm ts h=>∃ j:Nat,mm=ds.length-j∧j≤ds.length∧h=⟨[wtr ver (l++Wire.strE a++Wire.strE d++Wire.strE id++Wire.strE ty++Val.enc (.mk k n s is ks)++Wire.num v++Sf.flagE tn++Sf.flagE fi++Wire.num ds.length++Sf.wordsE (ds.take j)),.cells 43 [.str a,.str d,.str id,.str ty,.int .i64 k,.int .i64 n,.str s,.sl 5 .no (V.cellss is),.sl 1 .no (strsA ks),.int .i64 v,.bool tn,.bool fi,.sl 1 .no (strsA ds)]],[]⟩∧ts 0=.ptr 0 0∧ts 49=.sl 1 .no (strsA ds)∧ts 50=.int .i64 (ds.length:Nat)∧ts 51=.int .i64 (j:Nat)) ds.length ?_ ?_
   ·exact⟨0,by omega,by omega,by simp only[Sf.wordsE,Yl,Zai,Zr],by(exact ev0 ti),by(exact ev0 ti),by(exact ev0 @aze),by(exact azq ti)⟩
   ·rintro mm ts h ⟨j,rfl,hjc,rfl,t0,t49,t50,t51⟩;by_cases hj:j<ds.length
    ·have hlt:(j:Int)<(ds.length:Int):=by omega
     have ei:IntKind.i64.wrap ((j:Int)+1)=((j+1:Nat):Int):=by rw[wrap64 (by omega) (by omega)];omega
     have hg:=azv ds j hj;have hlt':(j:Int)<((strsA ds).length:Int):=by rw[aze];exact hlt
     have hj0:(0:Int)≤(j:Int):=by omega
     have ht:=avf ds (j+1);rw[ajh ds j hj,Za]at ht;have hsl:=aqs ds[j];refine azb (ai t0 (ai t49 (ai t50 (ai t51 (ai hlt (ai hg (ai hlt' hj0))))))) ?_;refine use (wt rfl ds[j] (by simp only[Za];omega)) ?_;refine azb (ai t0 (ai t49 (ai t50 (ai t51 ei)))) ?_;exact⟨ds.length-(j+1),by omega,j+1,rfl,by omega,by rw[ajh ds j hj];simp only[Zg],by(exact ev0 t0),by(exact ev0 t49),by(exact ev0 t50),by(exact ev0 ei)⟩
    ·have hlt:¬((j:Int)<(ds.length:Int)):=by omega
     have hjl:j=ds.length:=by omega
     subst hjl;refine azb (ai t0 (ai t49 (ai t50 (ai t51 hlt)))) ?_;exact⟨_,le_refl _,_,rfl,rfl,by simp only[Yk,Zg,Zi]⟩
 refine(ACall.lift1 key (by obtain⟨a,d,id,ty,⟨k,n,s,is,ks⟩,v,tn,fi,ds⟩:=x;rfl) (awc ver l) ?_ hb).mono ?_
 ·rintro u b' ⟨rfl,rfl⟩;exact⟨rfl,awc _ _⟩
 ·rintro u h' ⟨b',⟨rfl,rfl⟩,rfl⟩;exact⟨rfl,rfl⟩
theorem ay7{α:Type}(f:α→List UInt8)(l:List α)(j:Nat)(hj:j<l.length):(l.take (j+1)).flatMap f=(l.take j).flatMap f++f l[j]:=by
 rw[ZW hj,Yp];simp
theorem cjv{α:Type}(f:α→List UInt8)(l:List α)(j:Nat):((l.take j).flatMap f).length≤(l.flatMap f).length:=by
 have:l.flatMap f=(l.take j).flatMap f++(l.drop j).flatMap f:=by rw[←Yp,Yj]
 rw[this,Za];omega
theorem az0{α:Type}(f:α→List A)(l:List α)(j:Nat)(hj:j<l.length):(l.map f).getD j []=f l[j]:=by simp[List.getD,hj]
structure Sf.StOk(s:Sf.St):Prop where
 insts:∀ x∈s.insts,Sf.InstOk x
 outs:∀ x∈s.outs,(∃ lv b,(Val.chk x.value lv b).1=0)∧x.value.lens
 ser0:-9223372036854775808≤s.ser
 ser1:s.ser≤9223372036854775807
 li:s.insts.length≤1000000000
 lp:s.pends.length≤1000000000
 lo:s.outs.length≤1000000000
theorem ck4{ver:Int}(hver:ver=1∨ver=2)(st:Sf.St)(ok:Sf.StOk st)(hlen:(Sf.stE ver st).length+20≤1000000000) :
  AC 91 [.ptr 0 0,st.A] ⟨[.cells 140 [.nilp,.sl 0 .nil [],.int .i64 ver]],[]⟩ fun u h'=>∃ b',h'.b[0]?=some b'∧u=.tup []∧b'=wtr ver (Sf.stE ver st):=by
 obtain⟨lin,ser,ins,ps,os⟩:=st;have s0:-9223372036854775808≤ser:=ok.ser0;have s1:ser≤9223372036854775807:=ok.ser1;have li:ins.length≤1000000000:=ok.li;have lp:ps.length≤1000000000:=ok.lp;have lo:os.length≤1000000000:=ok.lo;have hml:magic.length=4:=rfl;have lm1:(ins.map Sf.Inst.cells).length=ins.length:=Zj _;have lm2:(ps.map Sf.Pend.cells).length=ps.length:=Zj _;have lm3:(os.map Sf.Outp.cells).length=os.length:=Zj _;obtain⟨F,hF⟩:=Ex ((if ver=2 then Wire.num ps.length++ps.flatMap Sf.pendE else[]));have hE:Sf.stE ver ⟨lin,ser,ins,ps,os⟩=magic++Wire.num ver++Wire.strE lin++Wire.num ser++Wire.num ins.length++ins.flatMap (Sf.instE ver)++F++Wire.num os.length++os.flatMap Sf.outE:=by rw[←hF];rfl
 rw[hE]at hlen;simp only[Za,hml]at hlen;have k0:=aqs lin;have hv12:∀ {G:Prop},((ver==2)=false→F=[]→G)→((ver==2)=true→F=Wire.num ps.length++ps.flatMap Sf.pendE→G)→G:=fun p q=>by
  rcases hver with rfl|rfl
  ·rw[if_neg (by decide)]at hF;exact p rfl hF.symm
  ·rw[if_pos rfl]at hF;exact q rfl hF.symm
 have hv1:1≤ver∧ver≤2:=by omega
 refine fo ?_;dsimp only[Sf.St.A];refine azb ti ?_;refine use (bj1 (.inr ⟨rfl,rfl⟩) magic (by simp only[ZA,hml];decide)) ?_;refine azb @cy2 ?_;refine use (wn (i:=0) (ver:=ver) (l:=magic) rfl ver (by simp only[Za,hml];omega) (by omega) (by omega)) ?_;refine azb ti ?_;refine use (wt rfl lin (by simp only[Za,hml];omega)) ?_;refine azb ti ?_;refine use (wn rfl ser (by simp only[Za,hml];omega) s0 s1) ?_;refine azb (ai lm1 (ai lm2 lm3)) ?_;refine use (wn rfl _ (by simp only[Za,hml];omega) (by omega) (by omega)) ?_;refine azb (ai lm1 (ai lm2 lm3)) ?_;refine azf (fun mm ts h=>∃(j:Nat) (l:List Blk),mm=ins.length-j∧j≤ins.length∧h=⟨wtr ver (magic++Wire.num ver++Wire.strE lin++Wire.num ser++Wire.num ins.length++(ins.take j).flatMap (Sf.instE ver)) :: .cells 35 [.str lin,.int .i64 ser,.sl 13 .no (ins.map Sf.Inst.cells),.sl 3 .no (ps.map Sf.Pend.cells),.sl 7 .no (os.map Sf.Outp.cells)]::l,[]⟩∧ts 0=.ptr 0 0∧ts 3=.ptr 1 0∧ts 34=.sl 13 .no (ins.map Sf.Inst.cells)∧ts 35=.int .i64 (ins.length:Nat)∧ts 36=.int .i64 (j:Nat)) ins.length ?_ ?_
 ·exact⟨0,[],by omega,by omega,by simp only[Yl,Zai,Zr],by(exact ev0 ti),by(exact ev0 ti),by(exact ev0 ti),by(exact ev0 (ai lm1 (ai lm2 lm3))),by(exact azq ti)⟩
 ·rintro mm ts h ⟨j,l,rfl,hjc,rfl,t0,t3,ta,tb,tc⟩;by_cases hj:j<ins.length
  ·have hlt:(j:Int)<(ins.length:Int):=by omega
   have hlt':(j:Int)<((ins.map Sf.Inst.cells).length:Int):=by rw[Zj];exact hlt
   have hj0:(0:Int)≤(j:Int):=by omega
   have ei:IntKind.i64.wrap ((j:Int)+1)=((j+1:Nat):Int):=by rw[wrap64 (by omega) (by omega)];omega
   have hs:=ay7 (Sf.instE ver) ins j hj;have ht:=cjv (Sf.instE ver) ins (j+1);have hg:=az0 Sf.Inst.cells ins j hj;have hm:=Zp hj;have hok:=ok.insts _ hm;obtain⟨x,hx⟩:=Ex (ins[j]);rw[hx]at hs hg hok;rw[hs,Za]at ht;have cw:=fun(m:List UInt8) (h:Hp) (hb:h.b[0]?=some (wtr ver m)) (hm:m.length+(Sf.instE ver x).length+20≤1000000000)=>dzy hver x hok m hm hb
   obtain⟨a,d,id,ty,⟨k,n,s,is,ks⟩,v,tn,fi,ds⟩:=x;simp only[Sf.Inst.cells]at hg cw;refine azb (ai t0 (ai t3 (ai ta (ai tb (ai tc (ai hlt (ai hg (ai hlt' hj0)))))))) ?_;refine use (cw _ _ rfl (by simp only[Za,hml];omega)) ?_;refine azb (ai t0 (ai t3 (ai ta (ai tb (ai tc ei))))) ?_;exact⟨ins.length-(j+1),by omega,j+1,l++[.cells 43 [.str a,.str d,.str id,.str ty,.int .i64 k,.int .i64 n,.str s,.sl 5 .no (V.cellss is),.sl 1 .no (strsA ks),.int .i64 v,.bool tn,.bool fi,.sl 1 .no (strsA ds)]],rfl,by omega,by rw[hs];simp only[Zg],by(exact ev0 t0),by(exact ev0 t3),by(exact ev0 ta),by(exact ev0 tb),by(exact ev0 ei)⟩
  ·have hlt:¬((j:Int)<(ins.length:Int)):=by omega
   have hjl:j=ins.length:=by omega
   subst hjl;rw[Yk];refine hv12 (fun e2 eF=>?_) (fun e2 eF=>?_);all_goals subst eF
   all_goals first|(simp only[Za]at hlen)|skip
   ·refine azb (ai t0 (ai t3 (ai ta (ai tb (ai tc (ai hlt (ai @cy2 (ai e2 (ai lm1 (ai lm2 lm3)))))))))) ?_;refine use (wn (i:=0) (ver:=ver) (l:=magic++Wire.num ver++Wire.strE lin++Wire.num ser++Wire.num ins.length++ins.flatMap (Sf.instE ver)) rfl _ (by simp only[Za,hml];omega) (by omega) (by omega)) ?_;refine azb (ai t0 (ai t3 (ai lm1 (ai lm2 lm3)))) ?_;refine azf (fun mm ts h=>∃(j:Nat) (l:List Blk),mm=os.length-j∧j≤os.length∧h=⟨wtr ver (magic++Wire.num ver++Wire.strE lin++Wire.num ser++Wire.num ins.length++ins.flatMap (Sf.instE ver)++Wire.num os.length++(os.take j).flatMap Sf.outE) :: .cells 35 [.str lin,.int .i64 ser,.sl 13 .no (ins.map Sf.Inst.cells),.sl 3 .no (ps.map Sf.Pend.cells),.sl 7 .no (os.map Sf.Outp.cells)]::l,[]⟩∧ts 0=.ptr 0 0∧ts 3=.ptr 1 0∧ts 80=.sl 7 .no (os.map Sf.Outp.cells)∧ts 81=.int .i64 (os.length:Nat)∧ts 82=.int .i64 (j:Nat)) os.length ?_ ?_
    ·exact⟨0,l,by omega,by omega,by simp only[Yl,Zai,Zr],by(exact ev0 t0),by(exact ev0 t3),by(exact ev0 (ai t0 t3)),by(exact ev0 (ai t0 (ai t3 (ai lm1 (ai lm2 lm3))))),by(exact azq (ai t0 t3))⟩
    ·rintro mm ts h ⟨j,l,rfl,hjc,rfl,t0,t3,ta,tb,tc⟩;by_cases hj:j<os.length
     ·have hlt:(j:Int)<(os.length:Int):=by omega
      have hlt':(j:Int)<((os.map Sf.Outp.cells).length:Int):=by rw[Zj];exact hlt
      have hj0:(0:Int)≤(j:Int):=by omega
      have ei:IntKind.i64.wrap ((j:Int)+1)=((j+1:Nat):Int):=by rw[wrap64 (by omega) (by omega)];omega
      have hs:=ay7 Sf.outE os j hj;have ht:=cjv Sf.outE os (j+1);have hg:=az0 Sf.Outp.cells os j hj;have hm:=Zp hj;have hok:=ok.outs _ hm;obtain⟨x,hx⟩:=Ex (os[j]);rw[hx]at hs hg hok;rw[hs,Za]at ht;obtain⟨m,⟨k,n,s,is,ks⟩,b⟩:=x;have hVA:(V.mk k n s is ks).A=.agg [.int .i64 k,.int .i64 n,.str s,.sl 5 .no (V.cellss is),.sl 1 .no (strsA ks)]:=by simp only[V.A,V.cells]
      have cv:=fun(m:List UInt8) (h:Hp) (hb:h.b[0]?=some (wtr ver m)) (hm:m.length+(Val.enc (.mk k n s is ks)).length+10≤1000000000)=>wv hb (.mk k n s is ks) hok.1 hm hok.2
      rw[hVA]at cv;simp only[Sf.Outp.cells]at hg;simp only[Sf.outE]at hs ht;simp only[Za]at ht;have k1:=aqs m;refine azb (ai t0 (ai t3 (ai ta (ai tb (ai tc (ai hlt (ai hg (ai hlt' hj0)))))))) ?_;refine use (wt rfl m (by simp only[Za,hml];omega)) ?_;refine azb (ai t0 (ai t3 (ai ta (ai tb tc)))) ?_;refine use (cv _ _ rfl (by simp only[Za,hml];omega)) ?_;refine azb (ai t0 (ai t3 (ai ta (ai tb tc)))) ?_;refine use (wf rfl b (by simp only[Za,hml];omega)) ?_;refine azb (ai t0 (ai t3 (ai ta (ai tb (ai tc ei))))) ?_;exact⟨os.length-(j+1),by omega,j+1,l++[.cells 94 [.str m,.int .i64 k,.int .i64 n,.str s,.sl 5 .no (V.cellss is),.sl 1 .no (strsA ks),.bool b]],rfl,by omega,by rw[hs];simp only[Zg],by(exact ev0 t0),by(exact ev0 t3),by(exact ev0 ta),by(exact ev0 tb),by(exact ev0 ei)⟩
     ·have hlt:¬((j:Int)<(os.length:Int)):=by omega
      have hjl:j=os.length:=by omega
      subst hjl;rw[Yk];refine azb (ai t0 (ai t3 (ai ta (ai tb (ai tc hlt))))) ?_;exact⟨_,le_refl _,_,rfl,rfl,by rw[hE];simp only[Zg,Zi]⟩
   ·refine azb (ai t0 (ai t3 (ai ta (ai tb (ai tc (ai hlt (ai @cy2 (ai e2 (ai lm1 (ai lm2 lm3)))))))))) ?_;refine use (wn (i:=0) (ver:=ver) (l:=magic++Wire.num ver++Wire.strE lin++Wire.num ser++Wire.num ins.length++ins.flatMap (Sf.instE ver)) rfl _ (by simp only[Za,hml];omega) (by omega) (by omega)) ?_;refine azb (ai t0 (ai t3 (ai lm1 (ai lm2 lm3)))) ?_;refine azf (fun mm ts h=>∃(j:Nat) (l:List Blk),mm=ps.length-j∧j≤ps.length∧h=⟨wtr ver (magic++Wire.num ver++Wire.strE lin++Wire.num ser++Wire.num ins.length++ins.flatMap (Sf.instE ver)++Wire.num ps.length++(ps.take j).flatMap Sf.pendE) :: .cells 35 [.str lin,.int .i64 ser,.sl 13 .no (ins.map Sf.Inst.cells),.sl 3 .no (ps.map Sf.Pend.cells),.sl 7 .no (os.map Sf.Outp.cells)]::l,[]⟩∧ts 0=.ptr 0 0∧ts 3=.ptr 1 0∧ts 55=.sl 3 .no (ps.map Sf.Pend.cells)∧ts 56=.int .i64 (ps.length:Nat)∧ts 57=.int .i64 (j:Nat)) ps.length ?_ ?_
    ·exact⟨0,l,by omega,by omega,by simp only[Yl,Zai,Zr],by(exact ev0 t0),by(exact ev0 t3),by(exact ev0 (ai t0 t3)),by(exact ev0 (ai t0 (ai t3 (ai lm1 (ai lm2 lm3))))),by(exact azq (ai t0 t3))⟩
    ·rintro mm ts h ⟨j,l,rfl,hjc,rfl,t0,t3,ta,tb,tc⟩;by_cases hj:j<ps.length
     ·have hlt:(j:Int)<(ps.length:Int):=by omega
      have hlt':(j:Int)<((ps.map Sf.Pend.cells).length:Int):=by rw[Zj];exact hlt
      have hj0:(0:Int)≤(j:Int):=by omega
      have ei:IntKind.i64.wrap ((j:Int)+1)=((j+1:Nat):Int):=by rw[wrap64 (by omega) (by omega)];omega
      have hs:=ay7 Sf.pendE ps j hj;have ht:=cjv Sf.pendE ps (j+1);have hg:=az0 Sf.Pend.cells ps j hj;have hm:=Zp hj;obtain⟨x,hx⟩:=Ex (ps[j]);rw[hx]at hs hg;rw[hs,Za]at ht;simp only[Sf.Pend.cells]at hg;simp only[Sf.pendE]at hs ht;simp only[Za]at ht;have k1:=aqs x.addr;have k2:=aqs x.typ;have k3:=aqs x.tok;refine azb (ai t0 (ai t3 (ai ta (ai tb (ai tc (ai hlt (ai hg (ai hlt' hj0)))))))) ?_;refine use (wt rfl x.addr (by simp only[Za,hml];omega)) ?_;refine azb (ai t0 (ai t3 (ai ta (ai tb tc)))) ?_;refine use (wt rfl x.typ (by simp only[Za,hml];omega)) ?_;refine azb (ai t0 (ai t3 (ai ta (ai tb tc)))) ?_;refine use (wt rfl x.tok (by simp only[Za,hml];omega)) ?_;refine azb (ai t0 (ai t3 (ai ta (ai tb (ai tc ei))))) ?_;exact⟨ps.length-(j+1),by omega,j+1,l++[.cells 123 [.str x.addr,.str x.typ,.str x.tok]],rfl,by omega,by rw[hs];simp only[Zg],by(exact ev0 t0),by(exact ev0 t3),by(exact ev0 ta),by(exact ev0 tb),by(exact ev0 ei)⟩
     ·have hlt:¬((j:Int)<(ps.length:Int)):=by omega
      have hjl:j=ps.length:=by omega
      subst hjl;rw[Yk];refine azb (ai t0 (ai t3 (ai ta (ai tb (ai tc (ai hlt (ai lm1 (ai lm2 lm3)))))))) ?_;refine use (wn rfl _ (by simp only[Za,hml];omega) (by omega) (by omega)) ?_;refine azb (ai t0 (ai t3 (ai lm1 (ai lm2 lm3)))) ?_;refine azf (fun mm ts h=>∃(j:Nat) (l:List Blk),mm=os.length-j∧j≤os.length∧h=⟨wtr ver (magic++Wire.num ver++Wire.strE lin++Wire.num ser++Wire.num ins.length++ins.flatMap (Sf.instE ver)++Wire.num ps.length++ps.flatMap Sf.pendE++Wire.num os.length++(os.take j).flatMap Sf.outE) :: .cells 35 [.str lin,.int .i64 ser,.sl 13 .no (ins.map Sf.Inst.cells),.sl 3 .no (ps.map Sf.Pend.cells),.sl 7 .no (os.map Sf.Outp.cells)]::l,[]⟩∧ts 0=.ptr 0 0∧ts 3=.ptr 1 0∧ts 80=.sl 7 .no (os.map Sf.Outp.cells)∧ts 81=.int .i64 (os.length:Nat)∧ts 82=.int .i64 (j:Nat)) os.length ?_ ?_
      ·exact⟨0,l,by omega,by omega,by simp only[Yl,Zai,Zr],by(exact ev0 t0),by(exact ev0 t3),by(exact ev0 (ai t0 t3)),by(exact ev0 (ai t0 (ai t3 (ai lm1 (ai lm2 lm3))))),by(exact azq (ai t0 t3))⟩
      ·rintro mm ts h ⟨j,l,rfl,hjc,rfl,t0,t3,ta,tb,tc⟩;by_cases hj:j<os.length
       ·have hlt:(j:Int)<(os.length:Int):=by omega
        have hlt':(j:Int)<((os.map Sf.Outp.cells).length:Int):=by rw[Zj];exact hlt
        have hj0:(0:Int)≤(j:Int):=by omega
        have ei:IntKind.i64.wrap ((j:Int)+1)=((j+1:Nat):Int):=by rw[wrap64 (by omega) (by omega)];omega
        have hs:=ay7 Sf.outE os j hj;have ht:=cjv Sf.outE os (j+1);have hg:=az0 Sf.Outp.cells os j hj;have hm:=Zp hj;have hok:=ok.outs _ hm;obtain⟨x,hx⟩:=Ex (os[j]);rw[hx]at hs hg hok;rw[hs,Za]at ht;obtain⟨m,⟨k,n,s,is,ks⟩,b⟩:=x;have hVA:(V.mk k n s is ks).A=.agg [.int .i64 k,.int .i64 n,.str s,.sl 5 .no (V.cellss is),.sl 1 .no (strsA ks)]:=by simp only[V.A,V.cells]
        have cv:=fun(m:List UInt8) (h:Hp) (hb:h.b[0]?=some (wtr ver m)) (hm:m.length+(Val.enc (.mk k n s is ks)).length+10≤1000000000)=>wv hb (.mk k n s is ks) hok.1 hm hok.2
        rw[hVA]at cv;simp only[Sf.Outp.cells]at hg;simp only[Sf.outE]at hs ht;simp only[Za]at ht;have k1:=aqs m;refine azb (ai t0 (ai t3 (ai ta (ai tb (ai tc (ai hlt (ai hg (ai hlt' hj0)))))))) ?_;refine use (wt rfl m (by simp only[Za,hml];omega)) ?_;refine azb (ai t0 (ai t3 (ai ta (ai tb tc)))) ?_;refine use (cv _ _ rfl (by simp only[Za,hml];omega)) ?_;refine azb (ai t0 (ai t3 (ai ta (ai tb tc)))) ?_;refine use (wf rfl b (by simp only[Za,hml];omega)) ?_;refine azb (ai t0 (ai t3 (ai ta (ai tb (ai tc ei))))) ?_;exact⟨os.length-(j+1),by omega,j+1,l++[.cells 94 [.str m,.int .i64 k,.int .i64 n,.str s,.sl 5 .no (V.cellss is),.sl 1 .no (strsA ks),.bool b]],rfl,by omega,by rw[hs];simp only[Zg],by(exact ev0 t0),by(exact ev0 t3),by(exact ev0 ta),by(exact ev0 tb),by(exact ev0 ei)⟩
       ·have hlt:¬((j:Int)<(os.length:Int)):=by omega
        have hjl:j=os.length:=by omega
        subst hjl;rw[Yk];refine azb (ai t0 (ai t3 (ai ta (ai tb (ai tc hlt))))) ?_;exact⟨_,le_refl _,_,rfl,rfl,by rw[hE];simp only[Zg,Zi]⟩
theorem ck8(s:List UInt8)(hs:s.length≤2000000)(h:Hp):AT 67 [.str s] h (.bool (s != []&&Str.valid s)):=by
 refine pcall ?_ rfl (by simp[A.pure,A.data]) h;refine fo ?_;rcases azl (s != [])with h1|h1
 ·refine go0 h1 ?_;refine gc0 h1 ?_;refine(bjm s hs _).mono ?_;rintro v h1' ⟨rfl,rfl⟩;refine go0 h1 ?_;exact⟨_,le_refl _,by rw[azj,h1];rfl⟩
 ·refine go0 h1 ?_;exact⟨_,le_refl _,by rw[azj,h1];rfl⟩
theorem avl(s:List UInt8)(hs:s.length≤1000000000)(h:Hp):AT 31 [.str s] h (.str (Crc.app s)):=
 azs (axv aq8) (fun w hg=>bwc ⟨s.toArray⟩ w (by rw[size_mk];exact hs)) (fun C=>rep_str.2 rfl) h
theorem ayv(s:List UInt8)(hs:s.length≤1000000000)(h:Hp):AT 129 [.str s] h (.tup [.str (Crc.ver s).1,.int .i64 (Crc.ver s).2]):=
 azs (axv aq8) (fun w hg=>bw9 ⟨s.toArray⟩ w (by rw[size_mk];exact hs)) (fun C=>rep_tup.2 ⟨_,rfl,repL_cons.2 ⟨_,_,rfl,rep_str.2 rfl,repL_cons.2 ⟨_,_,rfl,rep_int.2 rfl,repL_nil.2 rfl⟩⟩⟩) h
def stE:A:=.agg [.str [],.int .i64 0,.sl 0 .nil [],.sl 0 .nil [],.sl 0 .nil []]
end AX
namespace Sf
def zero:St:=⟨[],0,[],[],[]⟩
def encode(ver:Int)(st:St):List UInt8×Int:=
 if checkZ st≠0 then([],checkZ st)else if 1048572<(stE ver st).length then([],3)else(Crc.app (stE ver st),0)
def decode(s:List UInt8):St×Int:=
 if 1048576<s.length then(zero,3)
 else if AX.preB s=false then(zero,2)
 else if(Crc.ver s).2≠0 then(zero,20)
 else if(AX.versionS (Crc.ver s).1).2≠0 then(zero,(AX.versionS (Crc.ver s).1).2)
 else
  let r:=stateS (AX.versionS (Crc.ver s).1).1 ⟨(Wire.numR ⟨(Crc.ver s).1.drop 4,0⟩).1,false⟩
  if r.1.fails||decide (0<r.1.r.rest.length)||checkZ r.2 !=0 then(zero,2)else(r.2,0)
end Sf
namespace AX
def SCheck(st:Sf.St):Prop:=∀ h,AT 34 [st.A] h (.int .i64 (Sf.checkZ st))
theorem cx7{ver:Int}(hver:ver=1∨ver=2)(st:Sf.St)(ok:Sf.StOk st)(hlen:(Sf.stE ver st).length+20≤1000000000){h:Hp}{i:Nat}(hb:h.b[i]?=some (.cells 140 [.nilp,.sl 0 .nil [],.int .i64 ver])) :
  AC 91 [.ptr i 0,st.A] h fun u h'=>u=.tup []∧h'=⟨h.b.set i (wtr ver (Sf.stE ver st)),h.t⟩:=by
 refine(ACall.lift1 (ck4 hver st ok hlen) rfl (by intros;rfl) ?_ hb).mono ?_
 ·rintro u b' ⟨rfl,rfl⟩;exact⟨rfl,awc _ _⟩
 ·rintro u h' ⟨b',⟨rfl,rfl⟩,rfl⟩;exact⟨rfl,rfl⟩
theorem dz1(ver:Int)(st:Sf.St):Sf.stE ver st≠[]:=by
 unfold Sf.stE Sf.magic;simp
theorem cvo{ver:Int}(hver:ver=1∨ver=2)(st:Sf.St)(hck:SCheck st)(hok:Sf.checkZ st=0→Sf.StOk st∧(Sf.stE ver st).length+20≤1000000000)(h:Hp) :
  AT 54 [st.A,.int .i64 ver] h (.tup [.str (Sf.encode ver st).1,.int .i64 (Sf.encode ver st).2]):=by
 refine pcall ?_ rfl (by simp[A.pure,A.data,Sf.St.A]) h;refine fo ?_;have hw:=fun h hb hz=>cx7 hver st (hok hz).1 (hok hz).2 (h:=h) (i:=1) hb
 have hE:Sf.encode ver st=if Sf.checkZ st≠0 then([],Sf.checkZ st)else if 1048572<(Sf.stE ver st).length then([],3)else(Crc.app (Sf.stE ver st),0):=rfl
 unfold SCheck at hck;unfold Sf.St.A at hck hw ⊢;by_cases hz:Sf.checkZ st=0
 ·have e1:(Sf.checkZ st !=0)=false:=by simp[hz]
  rw[if_neg (by simp[hz])]at hE;refine azb ti ?_;refine use (hck _) ?_;refine azb e1 ?_;refine use (hw _ rfl hz) ?_;refine azb ti ?_;refine use (dzz (i:=1) (ver:=ver) (l:=Sf.stE ver st) (.inl rfl)) ?_;by_cases hl:((Sf.stE ver st).length:Int)>1048572
  ·rw[if_pos (by omega)]at hE;refine azb hl ?_;exact⟨_,le_refl _,by rw[hE];rfl⟩
  ·rw[if_neg (by omega)]at hE;refine azb hl ?_;refine use (bql (i:=1) (ver:=ver) (l:=Sf.stE ver st) (.inl rfl) (dz1 _ _)) ?_;refine azb ti ?_;refine use (avl _ (by omega) _) ?_;refine azb ti ?_;exact⟨_,le_refl _,by rw[hE];rfl⟩
 ·have e1:(Sf.checkZ st !=0)=true:=by simp[hz]
  rw[if_pos hz]at hE;refine azb ti ?_;refine use (hck _) ?_;refine azb e1 ?_;exact⟨_,le_refl _,by rw[hE];rfl⟩
theorem cvk(st:Sf.St)(hck:SCheck st)(hok:Sf.checkZ st=0→Sf.StOk st∧(Sf.stE 2 st).length+20≤1000000000)(h:Hp) :
  AT 27 [st.A] h (.tup [.str (Sf.encode 2 st).1,.int .i64 (Sf.encode 2 st).2]):=by
 refine pcall ?_ rfl (by simp[A.pure,A.data,Sf.St.A]) h;refine fo ?_;have he:=fun h=>cvo (.inr rfl) st hck hok h
 unfold Sf.St.A at he ⊢;refine azb ti ?_;refine use (he _) ?_;refine azb ti ?_;exact⟨_,le_refl _,rfl⟩
theorem liftD{P:Program}{G:World→Prop}{f:FuncId}{args:List A}{ver:Int}{s s':Sf.Rs}{v:A}(hc:ACall P G f (.ptr 0 0::args) ⟨[RB ver s.bad,rdr s.r],[]⟩ fun v' h'=>v'=v∧h'=⟨[RB ver s'.bad,rdr s'.r],[]⟩)(ha:A.locL 0 args=true)(hv:v.loc 0=true)(z:Blk)(l:List Blk)(t:List (TypeId×Nat×Nat)) :
  ACall P G f (.ptr 2 0::args) ⟨z::rdr s.r::RB ver s.bad::l,t⟩ fun v' h'=>v'=v∧h'=⟨z::rdr s'.r::RB ver s'.bad::l,t⟩:=by
 have key:=ACall.lift hc (fun i=>if i=0 then 2 else i) (fun a b ha hb e=>by
   simp only[Zh,ZA]at ha hb;have h1:a=0∨a=1:=by omega
   have h2:b=0∨b=1:=by omega
   rcases h1 with rfl|rfl<;>rcases h2 with rfl|rfl<;>simp at e ⊢) (by unfold A.locL;rw[(A.locL0 _ args ha).1];rfl)
  (fun x hx=>by
   rcases Z7.1 hx with rfl|hx
   ·rfl
   ·rw[YR.1 hx];rfl)
  (fun v' h' ⟨e,h0⟩=>⟨by rw[e];exact(A.loc0 _ v hv).1,fun j x hj hx=>by
   have:j=0∨j=1:=by simp only[Zh,ZA]at hj;omega
   rw[h0]at hx;rcases this with rfl|rfl
   ·simp only[ZN]at hx;injection hx with hx;subst hx;rfl
   ·simp only[ZN,ZG]at hx;injection hx with hx;subst hx;rfl⟩)
  (h:=⟨z::rdr s.r::RB ver s.bad::l,t⟩) (fun j hj=>by
   have:j=0∨j=1:=by simp only[Zh,ZA]at hj;omega
   rcases this with rfl|rfl<;>rfl)
 have e:A.renL (fun i=>if i=0 then 2 else i) (.ptr 0 0::args)=.ptr 2 0::args:=by unfold A.renL;rw[(A.locL0 0 args ha).2];rfl
 rw[e]at key;refine key.mono ?_;rintro v' h' ⟨v0,h0,⟨rfl,rfl⟩,rfl,rfl⟩;exact⟨(A.loc0 0 _ hv).2 _,rfl⟩
theorem awj{s:List UInt8}(h:(versionS s).2=0):(versionS s).1=1∨(versionS s).1=2:=by
 unfold versionS at h ⊢;split at h
 ·cases h
 ·rename_i h1;rw[if_neg h1];dsimp only at h ⊢;split at h
  ·cases h
  ·rename_i h2;rw[if_neg h2];split at h
   ·cases h
   ·rename_i h3;rw[if_neg h3];dsimp only;omega
theorem cjc(s:List UInt8)(hlen:s.length≤1000000000)(hvl:(Crc.ver s).1.length≤s.length)(hck:∀ ver r,r.rest.length≤s.length→SCheck (Sf.stateS ver ⟨r,false⟩).2)(h:Hp) :
  AT 99 [.str s] h (.tup [(Sf.decode s).1.A,.int .i64 (Sf.decode s).2]):=by
 refine pcall ?_ rfl (by simp[A.pure,A.data]) h;refine fo ?_;obtain⟨D,hD⟩:=Ex (Sf.decode s);rw[hD];unfold Sf.decode at hD;have hzA:Sf.zero.A=.agg [.str [],.int .i64 0,.sl 13 .no [],.sl 3 .no [],.sl 7 .no []]:=rfl;have hz:∀ e:Int,le (.tup [.agg [.str [],.int .i64 0,.sl 0 .nil [],.sl 0 .nil [],.sl 0 .nil []],.int .i64 e]) (.tup [Sf.zero.A,.int .i64 e]):=fun e=>⟨⟨aza _,aza _,⟨rfl,.inr rfl,.inl rfl⟩,⟨rfl,.inr rfl,.inl rfl⟩,⟨rfl,.inr rfl,.inl rfl⟩,trivial⟩,rfl,trivial⟩
 by_cases hl:(s.length:Int)>1048576
 ·rw[if_pos (by omega)]at hD;refine azb hl ?_;exact⟨_,hz _,by subst hD;rfl⟩
 rw[if_neg (by omega)]at hD;refine azb hl ?_;refine use (ajv s magic _) ?_;by_cases hp:preB s=false
 ·rw[if_pos hp]at hD;unfold preB at hp;refine azb hp ?_;exact⟨_,hz _,by subst hD;rfl⟩
 rw[if_neg hp]at hD;have hp':(decide (magic.length≤s.length)&&s.take magic.length==magic)=true:=by unfold preB at hp;simpa using hp
 refine azb hp' ?_;refine use (ayv s hlen _) ?_;obtain⟨⟨b,e⟩,hv⟩:=Ex (Crc.ver s);rw[hv]at hD hvl ⊢;dsimp only at hD hvl ⊢;by_cases he:e=0
 rotate_left
 ·have e1:(e !=0)=true:=by simp[he]
  rw[if_pos he]at hD;refine azb e1 ?_;exact⟨_,hz _,by subst hD;rfl⟩
 have e1:(e !=0)=false:=by simp[he]
 rw[if_neg (by simp[he])]at hD;refine azb e1 ?_;refine use (cq6 b (by omega) _) ?_;have h12:=@awj b;obtain⟨⟨n,e2⟩,hn⟩:=Ex (versionS b);rw[hn]at hD h12 ⊢;dsimp only at hD h12 ⊢;by_cases he2:e2=0
 rotate_left
 ·have e3:(e2 !=0)=true:=by simp[he2]
  rw[if_pos he2]at hD;refine azb e3 ?_;exact⟨_,hz _,by subst hD;rfl⟩
 have e3:(e2 !=0)=false:=by simp[he2]
 rw[if_neg (by simp[he2])]at hD;have hb4:4≤b.length:=by
  have hp4:preB b=true:=by
   rcases azl (preB b)with h1|h1
   ·first|exact h1|(exfalso;unfold versionS at hn;rw[if_pos h1]at hn;injection hn with _ hn;omega)
   ·first|exact h1|(exfalso;unfold versionS at hn;rw[if_pos h1]at hn;injection hn with _ hn;omega)
  unfold preB at hp4;have hml:magic.length=4:=rfl;simp only[Zc,Zq,hml]at hp4;exact hp4.1
 have hb5:(4:Int)≤(b.length:Int):=by omega
 refine azb (ai e3 hb5) ?_;refine use (axq (b.drop 4) _) ?_;refine azb ti ?_;refine use (aqa (i:=1) (r:=⟨b.drop 4,0⟩) rfl (by rw[ZB];omega)) ?_;have hql:=Wire.numR_rest ⟨b.drop 4,0⟩;obtain⟨⟨q,qn⟩,hq⟩:=Ex (Wire.numR ⟨b.drop 4,0⟩);rw[hq]at hD hql ⊢;dsimp only at hD hql ⊢;rw[ZB]at hql;have cs:=liftD (cvc (h12 he2) ⟨q,false⟩ (by dsimp only;omega) [] []) rfl rfl (.cells 35 [.str [],.int .i64 0,.sl 0 .nil [],.sl 0 .nil [],.sl 0 .nil []]) [] [];have hc:=hck n q (by omega);obtain⟨⟨⟨r,bad⟩,st⟩,hs⟩:=Ex (Sf.stateS n ⟨q,false⟩);rw[hs]at cs hc hD;unfold SCheck at hc;unfold Sf.St.A at cs hc;unfold RB at cs;dsimp only at cs hc hD;have cf:=liftD (akf (ver:=n) ⟨r,bad⟩ [] []) rfl rfl (.cells 35 [.str [],.int .i64 0,.sl 0 .nil [],.sl 0 .nil [],.sl 0 .nil []]) [.cells 35 [.str st.lin,.int .i64 st.ser,.sl 13 .no (st.insts.map Sf.Inst.cells),.sl 3 .no (st.pends.map Sf.Pend.cells),.sl 7 .no (st.outs.map Sf.Outp.cells)]] [];unfold RB at cf;dsimp only at cf;refine azb ti ?_;refine use cs ?_;refine azb ti ?_;refine use cf ?_;obtain⟨F,hF⟩:=Ex ((⟨r,bad⟩:Sf.Rs).fails);rw[hF]at hD ⊢;cases F;rotate_left
 ·rw[if_pos (by simp only[YT])]at hD;refine azb ti ?_;exact⟨_,hz _,by subst hD;rfl⟩
 simp only[Ys]at hD;refine azb ti ?_;refine use (awm (i:=1) (r:=r) rfl) ?_;by_cases hL:(r.rest.length:Int)>0
 ·rw[Yr (show 0<r.rest.length by omega),if_pos (by simp only[YT])]at hD;refine azb hL ?_;exact⟨_,hz _,by subst hD;rfl⟩
 have hL2:decide (0<r.rest.length)=false:=YH (by omega);simp only[hL2,Ys]at hD;refine azb hL ?_;refine use (hc _) ?_;by_cases hk:Sf.checkZ st=0
 ·have e4:(Sf.checkZ st !=0)=false:=by simp[hk]
  rw[if_neg (by simp[e4])]at hD;refine azb e4 ?_;exact⟨_,le_refl _,by subst hD;rfl⟩
 ·have e4:(Sf.checkZ st !=0)=true:=by simp[hk]
  rw[if_pos e4]at hD;refine azb e4 ?_;exact⟨_,hz _,by subst hD;rfl⟩
end AX
end Go.Proofs.YtdgcbckcameggadGreatDoor

namespace Go.Proofs.YtdgcbckcameggadGreatDoor
open Go.RowKit
open Go.Op (bytesLess)
namespace Adr
def Step.cells(s:Step):List AX.A:=[.str s.name,.int .i64 s.key.kind,.int .i64 s.key.num,.str s.key.str]
def Ad.cells(a:Ad):List AX.A:=[.sl 4 .no (a.mods.map Step.cells),.bool a.data,.str a.type,.str a.name,.int .i64 a.key.kind,.int .i64 a.key.num,.str a.key.str]
end Adr
namespace AX
def cmpZ(a b:List UInt8):Int:=if a==b then 0 else if bytesLess a b then -1 else 1
structure Leafs:Prop where
 parse:∀(s:List UInt8),s.length≤2000000→∀ h,AT 109 [.str s] h (.tup [.agg (Adr.parse s).1.cells,.int .i64 (Adr.parse s).2])
 static:∀(s:List UInt8),s.length≤2000000→∀ h,AT 140 [.str s] h (.tup [.str (Adr.static s).1,.int .i64 (Adr.static s).2])
 ident:∀(s:List UInt8),s.length≤2000000→∀ h,AT 110 [.str s] h (.bool (Adr.ident s))
 num:∀(s:List UInt8),s.length≤2000000→∀ h,AT 137 [.str s] h (.tup [.int .i64 (Num.parse s).1,.int .i64 (Num.parse s).2])
 cmp:∀(a b:List UInt8) h,AT 108 [.str a,.str b] h (.int .i64 (cmpZ a b))
 known:∀(v:V),v.lens→∀ h,AT 105 [v.A] h (.bool (Sf.known v))
 text:∀(s:List UInt8),s.length≤2000000→∀ h,AT 67 [.str s] h (.bool (Sf.text s))
theorem bxg(L:Leafs)(s t:List UInt8)(hs:s.length≤2000000)(h:Hp):AT 71 [.str s,.str t] h (.bool (Sf.managed s t)):=by
 refine pcall ?_ rfl (by simp[A.pure,A.data]) h;refine fo ?_;have hp:=fun h=>L.parse s hs h
 unfold Sf.managed;obtain⟨⟨⟨mods,data,ty,nm,⟨kk,kn,ks⟩⟩,e⟩,he⟩:=Ex (Adr.parse s);rw[he]at hp ⊢;simp only[Adr.Ad.cells]at hp;refine azb ti ?_;refine use (hp _) ?_;dsimp only;rcases azl (e==0)with e0|e0
 ·rw[e0];(refine AX.azb e0 ?_);first
  |exact⟨_, le_refl _, rfl⟩
  | (cases data
     · (refine AX.azb AX.ti ?_)
       exact ⟨_, le_refl _, rfl⟩
     · (refine AX.azb AX.ti ?_)
       exact ⟨_, le_refl _, rfl⟩)
 ·rw[e0];(refine AX.azb e0 ?_);first
  |exact⟨_, le_refl _, rfl⟩
  | (cases data
     · (refine AX.azb AX.ti ?_)
       exact ⟨_, le_refl _, rfl⟩
     · (refine AX.azb AX.ti ?_)
       exact ⟨_, le_refl _, rfl⟩)
theorem dz8(L:Leafs)(s:List UInt8)(hs:s.length≤2000000)(h:Hp):AT 104 [.str s] h (.bool ((Num.parse s).2==0&&decide (1≤(Num.parse s).1))):=by
 refine pcall ?_ rfl (by simp[A.pure,A.data]) h;refine fo ?_;have hp:=fun h=>L.num s hs h
 obtain⟨⟨n,e⟩,he⟩:=Ex (Num.parse s);rw[he]at hp ⊢;dsimp only at hp ⊢;refine azb ti ?_;refine use (hp _) ?_;rcases azl (e==0)with e0|e0
 ·rw[e0];refine azb e0 ?_;exact⟨_,le_refl _,rfl⟩
 ·rw[e0];refine azb e0 ?_;exact⟨_,le_refl _,rfl⟩
theorem bqp(x:Sf.Inst)(h:Hp):AT 69 [.agg x.cells] h (.agg [.str x.addr,.str x.dep]):=by
 obtain⟨a,d,id,ty,⟨k,n,w,vi,vy⟩,v,tn,fi,ds⟩:=x;refine pcall ?_ rfl (by simp[A.pure,A.data,Sf.Inst.cells]) h;refine fo ?_;dsimp only[Sf.Inst.cells];refine azb ti ?_;exact⟨_,le_refl _,rfl⟩
theorem cx0(L:Leafs)(o:Sf.Outp)(hs:o.name.length≤2000000)(hl:o.value.lens)(h:Hp):AT 72 [.agg o.cells] h (.int .i64 (Sf.outZ o)):=by
 have hi:=fun h=>L.ident o.name hs h
 have hk:=fun h=>L.known o.value hl h
 have hc:=fun h=>akk o.value hl h
 obtain⟨Z,hZ⟩:=Ex (Sf.outZ o);rw[hZ];unfold Sf.outZ at hZ;obtain⟨m,⟨k,n,w,vi,vy⟩,b⟩:=o;dsimp only at hi hk hc hZ;have hVA:(V.mk k n w vi vy).A=.agg [.int .i64 k,.int .i64 n,.str w,.sl 5 .no (V.cellss vi),.sl 1 .no (strsA vy)]:=by simp only[V.A,V.cells]
 rw[hVA]at hk hc;refine pcall ?_ rfl (by simp[A.pure,A.data,Sf.Outp.cells]) h;refine fo ?_;dsimp only[Sf.Outp.cells];refine azb ti ?_;refine use (hi _) ?_;cases hI:Adr.ident m
 ·rw[hI,if_pos (by decide)]at hZ;refine azb ti ?_;exact⟨_,le_refl _,by rw[←hZ];rfl⟩
 rw[hI,if_neg (by decide)]at hZ;refine azb ti ?_;refine use (hc _) ?_;by_cases hz:Val.checkZ (.mk k n w vi vy)=0
 rotate_left
 ·have e1:(Val.checkZ (.mk k n w vi vy)!=0)=true:=by simp[hz]
  rw[if_pos hz]at hZ;refine azb e1 ?_;exact⟨_,le_refl _,by rw[←hZ];rfl⟩
 have e1:(Val.checkZ (.mk k n w vi vy)!=0)=false:=by simp[hz]
 rw[if_neg (by simp[hz])]at hZ;refine azb e1 ?_;refine use (hk _) ?_;cases hK:Sf.known (.mk k n w vi vy)
 ·rw[hK,if_pos (by decide)]at hZ;refine azb ti ?_;exact⟨_,le_refl _,by rw[←hZ];rfl⟩
 ·rw[hK,if_neg (by decide)]at hZ;refine azb ti ?_;exact⟨_,le_refl _,by rw[←hZ];rfl⟩
theorem cqo(L:Leafs)(ds:List (List UInt8))(hn:ds.length≤1000000000)(hs:∀ s∈ds,s.length≤2000000)(h:Hp):AT 106 [.sl 1 .no (strsA ds)] h (.bool (Sf.depsB none ds)):=by
 refine pcall ?_ rfl (by simp[A.pure,A.data]) h;refine fo ?_;obtain⟨D,hD⟩:=Ex (Sf.depsB none ds);rw[hD];have lm:(strsA ds).length=ds.length:=aze ds;refine azb lm ?_;refine azf (fun mm ts h=>∃(j:Nat),mm=ds.length-j∧j≤ds.length∧h=⟨[],[]⟩∧Sf.depsB (if j=0 then none else ds[j-1]?) (ds.drop j)=D∧ts 0=.sl 1 .no (strsA ds)∧ts 7=.sl 1 .no (strsA ds)∧ts 8=.int .i64 (ds.length:Nat)∧ts 9=.int .i64 (j:Nat)) ds.length ?_ ?_
 ·exact⟨0,by omega,by omega,rfl,hD,by(exact ev0 ti),by(exact ev0 ti),by(exact ev0 lm),by(exact azq ti)⟩
 rintro mm ts h ⟨j,rfl,hjc,rfl,hit,t0,ta,tb,tc⟩;by_cases hj:j<ds.length
 ·have hlt:(j:Int)<(ds.length:Int):=by omega
  have hlt':(j:Int)<((strsA ds).length:Int):=by rw[aze];exact hlt
  have hj0:(0:Int)≤(j:Int):=by omega
  have ei:IntKind.i64.wrap ((j:Int)+1)=((j+1:Nat):Int):=by rw[wrap64 (by omega) (by omega)];omega
  have hg:=azv ds j hj;have hst:=fun h=>L.static ds[j] (hs _ (Zp hj)) h
  rw[Zo hj]at hit;unfold Sf.depsB at hit;have hsB:Sf.staticB ds[j]=((Adr.static ds[j]).2==0&&(Adr.static ds[j]).1==ds[j]):=rfl;obtain⟨⟨w,e⟩,hw⟩:=Ex (Adr.static ds[j]);rw[hw]at hst hsB;dsimp only at hst hsB;rw[hsB]at hit;refine azb (ai t0 (ai ta (ai tb (ai tc (ai hlt (ai hg (ai hlt' hj0))))))) ?_;refine use (hst _) ?_;by_cases he:e=0
  rotate_left
  ·have e1:(e !=0)=true:=by simp[he]
   have e2:(e==0)=false:=by simp[he]
   rw[e2,Yb,Yb,Yb]at hit;subst hit;refine azb (ai t0 (ai ta (ai tb (ai tc e1)))) ?_;exact⟨_,le_refl _,rfl⟩
  have e1:(e !=0)=false:=by simp[he]
  have e2:(e==0)=true:=by simp[he]
  rw[e2,Zx]at hit;by_cases hw2:w=ds[j]
  rotate_left
  ·have w1:(w !=ds[j])=true:=by simp[hw2]
   have w2:(w==ds[j])=false:=by simp[hw2]
   rw[w2,Yb,Yb]at hit;subst hit;refine azb (ai t0 (ai ta (ai tb (ai tc (ai e1 w1))))) ?_;exact⟨_,le_refl _,rfl⟩
  have w1:(w !=ds[j])=false:=by simp[hw2]
  have w2:(w==ds[j])=true:=by simp[hw2]
  rw[w2,Zx]at hit;cases j with
  |zero =>
   have h0:¬((0:Nat):Int)>0:=by omega
   simp only[if_true,Val.badB,ZM,Zx]at hit;refine azb (ai t0 (ai ta (ai tb (ai tc (ai e1 (ai w1 (ai h0 ei))))))) ?_;exact⟨ds.length-1,by omega,1,rfl,by omega,rfl,by rw[←hit];simp[hj],by(exact ev0 t0),by(exact ev0 ta),by(exact ev0 tb),by(exact ev0 ei)⟩
  |succ i =>
   have h0:((i+1:Nat):Int)>0:=by omega
   have ej:IntKind.i64.wrap (((i+1:Nat):Int)-1)=(i:Int):=by rw[wrap64 (by omega) (by omega)];omega
   have hg2:=azv ds i (by omega);have hi':(i:Int)<((strsA ds).length:Int):=by omega
   have hi0:(0:Int)≤(i:Int):=by omega
   have hki:ds[i+1-1]?=some (ds[i]'(by omega)):=Zm (by omega);rw[if_neg (by omega),hki]at hit;simp only[Val.badB]at hit;rw[Val.less_total]at hit;rcases azl (bytesLess ds[i+1] ds[i]||ds[i+1]==ds[i])with hb|hb
   ·rw[hb]at hit;refine azb (ai t0 (ai ta (ai tb (ai tc (ai e1 (ai w1 (ai h0 (ai ej (ai hg2 (ai hi' (ai hi0 (ai hb ei)))))))))))) ?_;first
    |(subst hit;exact⟨_,le_refl _,rfl⟩)
    |exact⟨ds.length-(i+1+1),by omega,i+1+1,rfl,by omega,rfl,by rw[←hit];simp[hj],by(exact ev0 t0),by(exact ev0 ta),by(exact ev0 tb),by(exact ev0 ei)⟩
   ·rw[hb]at hit;refine azb (ai t0 (ai ta (ai tb (ai tc (ai e1 (ai w1 (ai h0 (ai ej (ai hg2 (ai hi' (ai hi0 (ai hb ei)))))))))))) ?_;first
    |(subst hit;exact⟨_,le_refl _,rfl⟩)
    |exact⟨ds.length-(i+1+1),by omega,i+1+1,rfl,by omega,rfl,by rw[←hit];simp[hj],by(exact ev0 t0),by(exact ev0 ta),by(exact ev0 tb),by(exact ev0 ei)⟩
 ·have hlt:¬((j:Int)<(ds.length:Int)):=by omega
  rw[Y1 (by omega)]at hit;unfold Sf.depsB at hit;subst hit;refine azb (ai t0 (ai ta (ai tb (ai tc hlt)))) ?_;exact⟨_,le_refl _,rfl⟩
structure Sf.InstIn(x:Sf.Inst):Prop where
 a:x.addr.length≤2000000
 d:x.dep.length≤2000000
 i:x.id.length≤2000000
 l:x.attrs.lens
 n:x.deps.length≤1000000000
 ds:∀ s∈x.deps,s.length≤2000000
theorem bwl(L:Leafs)(x:Sf.Inst)(hx:Sf.InstIn x)(h:Hp):AT 68 [.agg x.cells] h (.int .i64 (Sf.instZ x)):=by
 have cm:=fun h=>bxg L x.addr x.typ hx.a h
 have ck:=fun h=>dz8 L x.dep hx.d h
 have ct:=fun h=>L.text x.id hx.i h
 have cv:=fun h=>akk x.attrs hx.l h
 have cn:=fun h=>L.known x.attrs hx.l h
 have cs:=fun h=>cqo L x.deps hx.n hx.ds h
 obtain⟨Z,hZ⟩:=Ex (Sf.instZ x);rw[hZ];unfold Sf.instZ Sf.keyB at hZ;obtain⟨a,d,id,ty,⟨k,n,w,vi,vy⟩,v,tn,fi,ds⟩:=x;clear hx;dsimp only at cm ck ct cv cn cs hZ;have hVA:(V.mk k n w vi vy).A=.agg [.int .i64 k,.int .i64 n,.str w,.sl 5 .no (V.cellss vi),.sl 1 .no (strsA vy)]:=by simp only[V.A,V.cells]
 rw[hVA]at cv cn;obtain⟨M,hM⟩:=Ex (Sf.managed a ty);obtain⟨K,hK⟩:=Ex (((Num.parse d).2==0&&decide (1≤(Num.parse d).1)));obtain⟨T,hT⟩:=Ex (Sf.text id);obtain⟨C,hC⟩:=Ex (Val.checkZ (.mk k n w vi vy));obtain⟨N,hN⟩:=Ex (Sf.known (.mk k n w vi vy));obtain⟨S,hS⟩:=Ex (Sf.depsB none ds);have hkd:Sf.V.kind (.mk k n w vi vy)=k:=rfl;rw[hM]at cm hZ;rw[hK]at ck hZ;rw[hT]at ct hZ;rw[hC]at cv hZ;rw[hN]at cn hZ;rw[hS]at cs hZ;rw[hkd]at hZ;refine pcall ?_ rfl (by simp[A.pure,A.data,Sf.Inst.cells]) h;refine fo ?_;dsimp only[Sf.Inst.cells];refine azb ti ?_;refine use (cm _) ?_;cases M
 ·rw[if_pos (by simp)]at hZ;subst hZ;refine azb ti ?_;exact⟨_,le_refl _,rfl⟩
 have key:∀ {G:Prop},((d != [])=false→(d == [])=true→G)→((d != [])=true→(d == [])=false→G)→G:=fun p q=>by
  by_cases e:d=[]
  ·exact p (by simp[e]) (by simp[e])
  ·exact q (by simp[e]) (by simp[e])
 have rest:True:=ti;refine key (fun d1 d2=>?_) (fun d1 d2=>?_);all_goals rw[d2]at hZ
 ·refine azb d1 ?_;refine use (ct _) ?_;cases T
  ·rw[if_pos (by simp)]at hZ;subst hZ;refine azb ti ?_;exact⟨_,le_refl _,rfl⟩
  rw[if_neg (by simp)]at hZ;refine azb ti ?_;refine use (cv _) ?_;by_cases hz:C=0
  rotate_left
  ·have e1:(C !=0)=true:=by simp[hz]
   rw[if_pos hz]at hZ;refine azb e1 ?_;exact⟨_,le_refl _,by rw[←hZ];rfl⟩
  have e1:(C !=0)=false:=by simp[hz]
  rw[if_neg (by simp[hz])]at hZ;by_cases hk5:k=5
  rotate_left
  ·have e2:(k !=5)=true:=by simp[hk5]
   rw[if_pos hk5]at hZ;refine azb (ai e1 e2) ?_;exact⟨_,le_refl _,by rw[←hZ];rfl⟩
  have e2:(k !=5)=false:=by simp[hk5]
  rw[if_neg (by simp[hk5])]at hZ;refine azb (ai e1 e2) ?_;refine use (cn _) ?_;cases N
  ·rw[if_pos (by simp)]at hZ;refine azb ti ?_;exact⟨_,le_refl _,by rw[←hZ];rfl⟩
  rw[if_neg (by simp)]at hZ;by_cases v0:v<1
  ·rw[if_pos (.inl v0)]at hZ;refine azb v0 ?_;exact⟨_,le_refl _,by rw[←hZ];rfl⟩
  by_cases v1:v>9007199254740992
  ·rw[if_pos (.inr v1)]at hZ;refine azb (ai v0 v1) ?_;exact⟨_,le_refl _,by rw[←hZ];rfl⟩
  rw[if_neg (by omega)]at hZ;refine azb (ai v0 v1) ?_;refine use (cs _) ?_;cases S
  ·rw[if_pos (by simp)]at hZ;refine azb ti ?_;exact⟨_,le_refl _,by rw[←hZ];rfl⟩
  ·rw[if_neg (by simp)]at hZ;refine azb ti ?_;exact⟨_,le_refl _,by rw[←hZ];rfl⟩
 ·refine azb d1 ?_;refine use (ck _) ?_;cases K
  ·rw[if_pos (by simp)]at hZ;subst hZ;refine azb ti ?_;exact⟨_,le_refl _,rfl⟩
  refine azb ti ?_;refine use (ct _) ?_;cases T
  ·rw[if_pos (by simp)]at hZ;subst hZ;refine azb ti ?_;exact⟨_,le_refl _,rfl⟩
  rw[if_neg (by simp)]at hZ;refine azb ti ?_;refine use (cv _) ?_;by_cases hz:C=0
  rotate_left
  ·have e1:(C !=0)=true:=by simp[hz]
   rw[if_pos hz]at hZ;refine azb e1 ?_;exact⟨_,le_refl _,by rw[←hZ];rfl⟩
  have e1:(C !=0)=false:=by simp[hz]
  rw[if_neg (by simp[hz])]at hZ;by_cases hk5:k=5
  rotate_left
  ·have e2:(k !=5)=true:=by simp[hk5]
   rw[if_pos hk5]at hZ;refine azb (ai e1 e2) ?_;exact⟨_,le_refl _,by rw[←hZ];rfl⟩
  have e2:(k !=5)=false:=by simp[hk5]
  rw[if_neg (by simp[hk5])]at hZ;refine azb (ai e1 e2) ?_;refine use (cn _) ?_;cases N
  ·rw[if_pos (by simp)]at hZ;refine azb ti ?_;exact⟨_,le_refl _,by rw[←hZ];rfl⟩
  rw[if_neg (by simp)]at hZ;by_cases v0:v<1
  ·rw[if_pos (.inl v0)]at hZ;refine azb v0 ?_;exact⟨_,le_refl _,by rw[←hZ];rfl⟩
  by_cases v1:v>9007199254740992
  ·rw[if_pos (.inr v1)]at hZ;refine azb (ai v0 v1) ?_;exact⟨_,le_refl _,by rw[←hZ];rfl⟩
  rw[if_neg (by omega)]at hZ;refine azb (ai v0 v1) ?_;refine use (cs _) ?_;cases S
  ·rw[if_pos (by simp)]at hZ;refine azb ti ?_;exact⟨_,le_refl _,by rw[←hZ];rfl⟩
  ·rw[if_neg (by simp)]at hZ;refine azb ti ?_;exact⟨_,le_refl _,by rw[←hZ];rfl⟩
end AX
end Go.Proofs.YtdgcbckcameggadGreatDoor
