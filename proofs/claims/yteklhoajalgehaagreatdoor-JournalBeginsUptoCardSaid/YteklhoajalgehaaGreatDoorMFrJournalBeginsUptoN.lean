/- Part of what the proof needs. -/
import Derived.Test.YteklhoajalgehaaGreatDoorMFrJournalBeginsUptoA
import Derived.Test.YteklhoajalgehaaGreatDoorMFrJournalBeginsUptoH
import Derived.Test.YteklhoajalgehaaGreatDoorMFrJournalBeginsUptoI
import Derived.Test.YteklhoajalgehaaGreatDoorMFrJournalBeginsUptoJ
import Derived.Test.YteklhoajalgehaaGreatDoorMFrJournalBeginsUptoL
import Derived.Test.YteklhoajalgehaaGreatDoorMFrJournalBeginsUptoM
import Derived.Laws.RangeAny
import Derived.Laws.Runes
import Derived.Lib.OthersKept
import Derived.Deep.LoopGhost
import Derived.BigRegion
import Derived.Below
import Derived.BigQuiet
import Derived.Deep.QuietTactic
import Derived.WalkMore
import Derived.IntWalk
set_option maxHeartbeats 4000000
set_option linter.unusedSimpArgs false
set_option linter.unusedVariables false
set_option linter.unnecessarySimpa false
namespace Go.Proofs.YteklhoajalgehaaGreatDoor
open Go.RowKit Go.Lib
def stops : ByteArray:=⟨#[46,91]⟩
theorem below_iter (w : World) (s : ByteArray) (p : Nat) : Below w.heap.size w (w.iter s p):=by
 refine ⟨rfl,rfl,rfl,?_,fun g hg => ?_⟩
 ·show w.heap.size ≤ (w.heap.push (Obj.stringIter s p)).size
  simp
 ·show (w.heap.push (Obj.stringIter s p))[g]? = _
  rw [Array.getElem?_push,if_neg (by omega)]
set_option maxRecDepth 100000 in
theorem indexRune_err (w : World) : Calls Tryz.prog 311 #[.string stops,.int .i32 65533] w fun e w' => e = .returned (.int .i64 (-1)) ∧ Below w.heap.size w w':=by
 go_enter Tryz.func311,Tryz.ntmps311
 have hsz : stops.size = 2:=rfl
 go_wp2_with fail
 go_loopg [5,6] 2 (fun g _ _ wx => ∃ i : Nat,i + g = 2 ∧ wx = w.iter stops i)
 case atStart => exact ⟨0,by omega,rfl⟩
 case round =>
  obtain ⟨i,hig,rfl⟩:=hrel
  cases gk with
  | zero =>
   obtain rfl : i = 2:=by omega
   have hnx:=fun ty => run_next_end (P:=Tryz.prog) w stops 2 ty (by decide)
   go_wp2
   go_ret
   exact ⟨rfl,below_iter w stops 2⟩
  | succ g =>
   have hi : i = 0 ∨ i = 1:=by omega
   rcases hi with rfl | rfl
   ·have hnx:=fun ty => run_next_ascii (P:=Tryz.prog) w stops 0 ty (by decide) (by decide)
    have e0 : ((stops[0]'(by decide)).toNat : Int) = 46:=rfl
    rw [e0] at hnx
    go_wp2
    go_roundg g
    case measure => omega
    case rel => exact ⟨1,by omega,rfl⟩
   ·have hnx:=fun ty => run_next_ascii (P:=Tryz.prog) w stops 1 ty (by decide) (by decide)
    have e0 : ((stops[1]'(by decide)).toNat : Int) = 91:=rfl
    rw [e0] at hnx
    go_wp2
    go_roundg g
    case measure => omega
    case rel => exact ⟨2,by omega,rfl⟩
set_option maxRecDepth 100000 in
theorem indexRune_hi (r : Int) (h0 : 128 ≤ r) (h1 : r ≤ 2147483647) (hr : r ≠ 65533) (w : World) : Calls Tryz.prog 311 #[.string stops,.int .i32 r] w fun e w' => e = .returned (.int .i64 (-1)) ∧ Below w.heap.size w w':=by
 go_enter Tryz.func311,Tryz.ntmps311
 have hsz : stops.size = 2:=rfl
 have c1 : decide (0 ≤ r) = true:=decide_eq_true (by omega)
 have c2 : decide (r < 128) = false:=decide_eq_false (by omega)
 have c3 : (r == 65533) = false:=beq_eq_false_iff_ne.2 hr
 have Hv:=kept (fun w => Tryz.utf8_ValidRune r w)
 cases hv : Lib.validRune r
 ·go_wp2_with fail
  (with_reducible refine (Hv.out _).mono ?_); rintro e w1 ⟨rfl,rfl⟩
  rw [hv]
  go_wp2
  go_ret
  exact ⟨rfl,Below.refl _ _⟩
 ·have hval : Utf8.valid r = true:=by rw [Go.validRune_eq]; unfold Lib.validRune at hv; unfold Go.validRune; exact hv
  obtain ⟨f1,f2,f3⟩:=encode_facts r hval h0
  go_wp2_with fail
  (with_reducible refine (Hv.out _).mono ?_); rintro e w1 ⟨rfl,rfl⟩
  rw [hv]
  have e1 : IntKind.i64.wrap (((Utf8.encode r).size : Int) - 1) = (((Utf8.encode r).size - 1 : Nat) : Int):=by rw [show ((Utf8.encode r).size : Int) - 1 = (((Utf8.encode r).size - 1 : Nat) : Int) by omega]; exact Go.IntWalk.i64_in _ ⟨by omega,by omega⟩
  have hcv:=fun (w : World) => run_convert_int_string (P:=Tryz.prog) w 21 9 .i32 r rfl rfl
  go_wp2_with fail
  apply wp_scope_straight
  go_wp2
  go_loopg [9,10,11,12] 1 (fun g v9 v10 v11 v12 wx => wx = w1 ∧ v9 = .int .i64 (((Utf8.encode r).size - 1 : Nat) : Int))
  case atStart => exact ⟨rfl,rfl⟩
  case round =>
   obtain ⟨rfl,rfl⟩:=hrel
   by_cases h2 : (Utf8.encode r).size = 2
   ·have e2 : (Utf8.encode r).size - 1 = 1:=by omega
    obtain ⟨x,hx⟩ : ∃ x : UInt8,(Utf8.encode r)[1]'(by omega) = x:=⟨_,rfl⟩
    have hx1 : 128 ≤ x.toNat:=by
     have:=f3 (by omega)
     simp only [e2] at this
     rw [hx] at this; exact this
    have hi1 : (1 : Nat) < (Utf8.encode r).size:=by omega
    have hs1 : (stops[1]'(by decide)).toNat = 91:=rfl
    have hne : ((91 : Int) != (x.toNat : Int)) = true:=by simp; omega
    have e3 : (((Utf8.encode r).size - 1 : Nat) : Int) = 1:=by omega
    have hi2 : (1 : Int) < ((Utf8.encode r).size : Int):=by omega
    rw [e3]
    go_wp2
    apply wp_scope_straight
    go_wp2_with fail
    go_region
    have hw2 : IntKind.i64.wrap ((1 : Int) + 1) = 2:=rfl
    have hib0 : Lib.indexByte [] x = -1:=rfl
    go_wp2_with fail
    go_region_with ((with_reducible refine (Tryz.strings_IndexByte _ _ _).mono ?_); rintro e2 w2 ⟨rfl,rfl⟩)
    all_goals
     go_wp2
     rw [Exit.noGoto_ret]
     go_wp2
     rw [Exit.noGoto_ret]
     go_wp2
     go_ret
     first | exact ⟨rfl,below_drewN (Below.refl _ _) 2⟩ | exact ⟨rfl,below_drewN _ 2⟩
   ·have hlt : ¬ ((((Utf8.encode r).size - 1 : Nat) : Int) < (stops.size : Int)):=by omega
    go_wp2
    go_ret
    exact ⟨rfl,Below.refl _ _⟩
theorem decode_conts (s : ByteArray) (i j : Nat) (h1 : 1 ≤ j) (hj : j < (Utf8.decode s i).2) : i + j < s.size ∧ 128 ≤ (s.get! (i + j)).toNat:=by
 unfold Utf8.decode at hj
 dsimp only at hj
 split at hj
 ·simp only at hj; omega
 ·split at hj
  ·next h =>
   simp only [Bool.and_eq_true,decide_eq_true_eq,beq_iff_eq] at h
   split at hj
   ·simp only at hj
    obtain rfl : j = 1:=by omega
    omega
   ·simp only at hj; omega
  ·split at hj
   ·next h =>
    simp only [Bool.and_eq_true,decide_eq_true_eq,beq_iff_eq] at h
    split at hj
    ·simp only at hj
     have : j = 1 ∨ j = 2:=by omega
     rcases this with rfl | rfl <;> omega
    ·simp only at hj; omega
   ·split at hj
    ·next h =>
     simp only [Bool.and_eq_true,decide_eq_true_eq,beq_iff_eq] at h
     split at hj
     ·simp only at hj
      have : j = 1 ∨ j = 2 ∨ j = 3:=by omega
      rcases this with rfl | rfl | rfl <;> omega
     ·simp only at hj; omega
    ·simp only at hj; omega
theorem indexRune_any (r : Int) (h0 : 128 ≤ r) (h1 : r ≤ 2147483647) (w : World) : Calls Tryz.prog 311 #[.string stops,.int .i32 r] w fun e w' => e = .returned (.int .i64 (-1)) ∧ Below w.heap.size w w':=by
 by_cases h : r = 65533
 ·subst h; exact indexRune_err w
 ·exact indexRune_hi r h0 h1 h w
theorem noAny_skip {s : ByteArray} {i : Nat} (hi : i < s.size) (hx : 128 ≤ (s[i]'hi).toNat) (h : Lib.NoAny s.data.toList stops.data.toList i) : Lib.NoAny s.data.toList stops.data.toList (i + (Utf8.decode s i).2) ∧ i + (Utf8.decode s i).2 ≤ s.size ∧ 1 ≤ (Utf8.decode s i).2:=by
 have hd:=(decode_high s i hi hx).2
 refine ⟨fun j b hj hb => ?_,?_,hd⟩
 ·by_cases hji : j < i
  ·exact h j b hji hb
  ·have hjs : j < s.size:=by
    have:=(List.getElem?_eq_some_iff.1 hb).1
    simpa using this
   have hb' : b = s[j]'hjs:=by
    have:=Lib.data_getElem? s j hjs
    rw [this] at hb; exact (Option.some.inj hb).symm
   have h128 : 128 ≤ b.toNat:=by
    by_cases hji2 : j = i
    ·subst hji2; rw [hb']; exact hx
    ·have:=(decode_conts s i (j - i) (by omega) (by omega)).2
     rw [show i + (j - i) = j by omega] at this
     rw [hb']
     have e : s.get! j = s[j]'hjs:=get_at s j hjs
     rw [e] at this; exact this
   have hne : b ≠ 46 ∧ b ≠ 91:=by
    constructor
    ·rintro rfl; exact absurd h128 (by decide)
    ·rintro rfl; exact absurd h128 (by decide)
   show [(46 : UInt8),91].contains b = false
   simp [hne.1,hne.2]
 ·by_cases h1 : (Utf8.decode s i).2 = 1
  ·omega
  ·have:=(decode_conts s i ((Utf8.decode s i).2 - 1) (by omega) (by omega)).1
   omega
set_option maxRecDepth 100000 in
theorem indexAny_short (s : ByteArray) (w : World) (h8 : s.size ≤ 8) : Calls Tryz.prog 284 #[.string s,.string stops] w fun e w' => e = .returned (.int .i64 (Lib.indexAny s.data.toList stops.data.toList)) ∧ Below w.heap.size w w':=by
 have hss : stops.size = 2:=rfl
 have hemp : stops.toList.isEmpty = false:=by rw [Lib.toList_data]; rfl
 have hn1 : ((stops.size : Int) == 1) = false:=rfl
 have h8z : decide ((8 : Int) < (s.size : Int)) = false:=decide_eq_false (by omega)
 go_enter Tryz.func284,Tryz.ntmps284
 go_wp2_with fail
 (with_reducible refine (Tryz.strings_shouldUseASCIISet _ _).mono ?_); rintro e w1 ⟨rfl,rfl⟩
 rw [h8z]
 go_wp2_with fail
 go_loopg [9,10] s.size (fun g _ _ wx => ∃ i : Nat,s.size ≤ i + g ∧ i ≤ s.size ∧ wx.heap[w1.heap.size]? = some (.stringIter s i) ∧ Below w1.heap.size w1 wx ∧ Lib.NoAny s.data.toList stops.data.toList i)
 case atStart => exact ⟨0,by omega,by omega,World.iter_heap _ _ _,below_iter _ _ _,Lib.NoAny.zero _ _⟩
 case round =>
  obtain ⟨i,hig,his,hit,hbel,hno⟩:=hrel
  by_cases hi : i < s.size
  ·cases gk with
   | zero => omega
   | succ g =>
    obtain ⟨x,hx⟩ : ∃ x : UInt8,s[i]'hi = x:=⟨_,rfl⟩
    have hxl : s.data.toList[i]? = some x:=by rw [← hx]; exact Lib.data_getElem? s i hi
    by_cases ha : x.toNat < 128
    ·have hnx:=fun ty => run_next_ascii_at (P:=Tryz.prog) wr w1.heap.size s i ty hit hi (by rw [hx]; exact ha)
     rw [hx] at hnx
     have Hit:=kept (iterAt_heap wr w1.heap.size s i (i + 1) hit)
     have Hbel:=kept (below_iterAt hbel (Nat.le_refl _) s (i + 1))
     have Hno:=kept hno
     have Hxl:=kept hxl
     have hcon:=Lib.contains_iff_indexByte stops.data.toList x
     have hback : ((x.toNat : Int)).toNat.toUInt8 = x:=by simp
     have Hx:=kept hx
     clear hit hbel hno hxl hx
     cases hin : stops.data.toList.contains x
     ·rw [hin] at hcon
      have hlt : ¬ ((0 : Int) ≤ Lib.indexByte stops.data.toList x):=of_decide_eq_false hcon.symm
      clear hcon
      go_wp2_with fail
      (with_reducible refine (Tryz.strings_IndexRune_ascii _ _ _ (by omega) (by omega)).mono ?_); rintro e w2 ⟨rfl,rfl⟩
      rw [hback]
      go_wp2
      go_roundg g
      case measure => omega
      case rel => exact ⟨i + 1,by omega,by omega,Hit.out,Hbel.out,Hno.out.succ Hxl.out hin⟩
     ·rw [hin] at hcon
      have hge : (0 : Int) ≤ Lib.indexByte stops.data.toList x:=of_decide_eq_true hcon.symm
      clear hcon
      go_wp2_with fail
      (with_reducible refine (Tryz.strings_IndexRune_ascii _ _ _ (by omega) (by omega)).mono ?_); rintro e w2 ⟨rfl,rfl⟩
      rw [hback]
      go_wp2
      go_ret
      exact ⟨by rw [Lib.indexAny_hit Hno.out Hxl.out hin]; rfl,Hbel.out⟩
    ·have hx128 : 128 ≤ (s[i]'hi).toNat:=by rw [hx]; omega
     obtain ⟨k1,k2,k3⟩:=noAny_skip hi hx128 hno
     have d1:=(decode_high s i hi hx128).1
     have d2:=decode_le s i
     have hnx:=fun ty => run_next_any_at (P:=Tryz.prog) wr w1.heap.size s i ty hit hi
     obtain ⟨⟨c,d⟩,hcd⟩ : ∃ p,Utf8.decode s i = p:=⟨_,rfl⟩
     rw [hcd] at k1 k2 k3 d1 d2 hnx
     dsimp only at k1 k2 k3 d1 d2 hnx
     have Hit:=kept (iterAt_heap wr w1.heap.size s i (i + d) hit)
     have Hbel:=kept (below_iterAt hbel (Nat.le_refl _) s (i + d))
     have K1:=kept k1
     clear hit hbel hno hxl hx hx128 hcd k1
     go_wp2_with fail
     (with_reducible refine (indexRune_any _ (by omega) (by omega) _).mono ?_); rintro e w2 ⟨rfl,b2⟩
     have hit2 : w2.heap[w1.heap.size]? = some (.stringIter s (i + d)):=by rw [b2.block _ (Array.getElem?_eq_some_iff.1 Hit.out).1]; exact Hit.out
     have Hit2:=kept hit2
     have Hbel2:=kept (Hbel.out.trans (b2.mono (by have:=Hbel.out.size; exact this)))
     clear hit2 b2
     go_wp2
     go_roundg g
     case measure => omega
     case rel => exact ⟨i + d,by omega,by omega,Hit2.out,Hbel2.out,K1.out⟩
  ·obtain rfl : i = s.size:=by omega
   have hnx:=fun ty => run_next_end_at (P:=Tryz.prog) wr w1.heap.size s s.size ty hit (by omega)
   have Hno:=kept hno
   have Hbel:=kept hbel
   clear hno hbel
   go_wp2
   go_ret
   exact ⟨by rw [Lib.indexAny_none (by rw [← Lib.size_eq]; exact Hno.out)]; rfl,Hbel.out⟩
set_option maxHeartbeats 8000000 in
set_option maxRecDepth 1000000 in
theorem indexAny_long (s : ByteArray) (h8 : 8 < s.size) (hs : s.size ≤ 9223372036854775807) (w : World) : Calls Tryz.prog 284 #[.string s,.string stops] w fun e w' => e = .returned (.int .i64 (Lib.indexAny s.data.toList stops.data.toList)) ∧ Below w.heap.size w w':=by
 have hz:=zero_of_info (P:=Tryz.prog) (t:=331) (n:=256) (v:=.agg (Array.replicate 256 (.bool false))) (by kernel_rfl)
 obtain ⟨cells,hcells⟩ : ∃ c,Lib.setCells stops.data.toList = c:=⟨_,rfl⟩
 have hasc : ∀ (j : Nat) b,stops.data.toList[j]? = some b → b.toNat < 128:=by
  intro j b hb
  match j,hb with
  | 0,hb => cases hb; decide
  | 1,hb => cases hb; decide
  | j + 2,hb => simp [stops] at hb
 have Hset:=kept (Tryz.strings_makeASCIISet hz.1 stops w (by decide) hasc)
 obtain ⟨W,hW⟩ : ∃ W,(w.alloc (.cells cells 331)).alloc (.cells cells 331) = W:=⟨_,rfl⟩
 have hbel : Below w.heap.size w W:=by
  rw [← hW]
  exact ((Below.refl _ _).alloc (Nat.le_refl _) _).alloc (((Below.refl w.heap.size w).alloc (Nat.le_refl _) (.cells cells 331)).size) _
 have hcell : ∀ x : UInt8,W.cell? ⟨w.heap.size + 1,x.toNat,none⟩ = some (.bool (stops.data.toList.contains x)):=fun x => by
  rw [← hW,World.cell?_alloc_at _ _ _ _ (by simp),← hcells,Lib.setCells_at]
 have hst : (storeCells ⟨w.heap.size + 1,0,none⟩ cells.toList 0).run Tryz.prog ((w.alloc (.cells cells 331)).alloc (.cells (Array.replicate 256 (.bool false)) 331)) = .ok () W:=by
  have:=run_storeCells_new (P:=Tryz.prog) (w.alloc (.cells cells 331)) 331 (Array.replicate 256 (.bool false)) cells (by rw [← hcells,Lib.setCells_size]; exact hz.2) (by rw [← hcells,Lib.setCells_size,Array.size_replicate]) (by rw [← hcells]; exact Lib.setCells_one _)
  rw [hW] at this
  simpa using this
 have hemp : stops.toList.isEmpty = false:=by rw [Lib.toList_data]; rfl
 have hn1 : ((stops.size : Int) == 1) = false:=rfl
 have h8z : decide ((8 : Int) < (s.size : Int)) = true:=decide_eq_true (by omega)
 have HC:=kept hcell
 have HB:=kept hbel
 clear hcell hbel
 rw [hcells] at Hset
 go_enter Tryz.func284,Tryz.ntmps284
 go_wp2_with fail
 (with_reducible refine (Tryz.strings_shouldUseASCIISet _ _).mono ?_); rintro e w1 ⟨rfl,rfl⟩
 rw [h8z]
 go_wp2_with fail
 (with_reducible refine Hset.out.mono ?_); rintro e w1 ⟨rfl,rfl⟩
 have hcsz : cells.size = 256:=by rw [← hcells]; exact Lib.setCells_size _
 have e0 : Tryz.zeroCells331 = Array.replicate 256 (.bool false):=by kernel_rfl
 go_wp2
 go_loopg [8] s.size (fun g s8 wx => ∃ i : Nat,i + g = s.size ∧ s8 = .int .i64 i ∧ wx = W ∧ Lib.NoAny s.data.toList stops.data.toList i)
 case atStart => exact ⟨0,by omega,rfl,rfl,Lib.NoAny.zero _ _⟩
 case round =>
  obtain ⟨i,hig,rfl,rfl,hno⟩:=hrel
  have HN:=kept hno
  clear hno
  cases gk with
  | zero =>
   obtain rfl : i = s.size:=by omega
   have hiz : ¬ ((s.size : Int) < (s.size : Int)):=by omega
   go_wp2
   go_ret
   exact ⟨by rw [Lib.indexAny_none (by rw [← Lib.size_eq]; exact HN.out)]; rfl,HB.out⟩
  | succ g =>
   have hi : i < s.size:=by omega
   have hiz : (i : Int) < (s.size : Int):=by omega
   have hw : IntKind.i64.wrap ((i : Int) + 1) = (i : Int) + 1:=Go.IntWalk.i64_in _ ⟨by omega,by omega⟩
   obtain ⟨x,hx⟩ : ∃ x : UInt8,s[i]'hi = x:=⟨_,rfl⟩
   have hxl : s.data.toList[i]? = some x:=by rw [← hx]; exact Lib.data_getElem? s i hi
   have Hxl:=kept hxl
   clear hxl
   have hcx:=HC.out x
   cases hin : stops.data.toList.contains x <;> rw [hin] at hcx
   ·go_wp2_with fail
    (with_reducible refine (Tryz.asciiSet_contains _ x _ _ hcx).mono ?_); rintro e w2 ⟨rfl,rfl⟩
    go_wp2
    go_roundg g
    case measure => omega
    case rel => exact ⟨i + 1,by omega,by first | rfl | simp,rfl,HN.out.succ Hxl.out hin⟩
   ·go_wp2_with fail
    (with_reducible refine (Tryz.asciiSet_contains _ x _ _ hcx).mono ?_); rintro e w2 ⟨rfl,rfl⟩
    go_wp2
    go_ret
    exact ⟨by rw [Lib.indexAny_hit HN.out Hxl.out hin]; rfl,HB.out⟩
theorem indexAny_any (s : ByteArray) (hs : s.size ≤ 9223372036854775807) (w : World) : Calls Tryz.prog 284 #[.string s,.string stops] w fun e w' => e = .returned (.int .i64 (Lib.indexAny s.data.toList stops.data.toList)) ∧ Below w.heap.size w w':=by
 by_cases h8 : s.size ≤ 8
 ·exact indexAny_short s w h8
 ·exact indexAny_long s (by omega) hs w
end Go.Proofs.YteklhoajalgehaaGreatDoor

namespace Go.Proofs.YteklhoajalgehaaGreatDoor
open Go.RowKit
namespace Adr
def first (k : Nat) (c : UInt8) : Bool:=if k = 0 then letter c else wordB c
def idOk (j : Nat) (s : List UInt8) : Prop:=∀ k,k < j → first k (s.getD k 0) = true
theorem wordB_of_letter {c : UInt8} (h : letter c = true) : wordB c = true:=by unfold wordB; rw [h]; rfl
theorem ident_fail {s : List UInt8} {j : Nat} (hj : j < s.length) (h : first j (s.getD j 0) = false) : ident s = false:=by
 unfold ident
 unfold first at h
 split at h
 ·next e =>
  subst e
  rw [h]; simp
 ·have : s.all wordB = false:=by
   rw [List.all_eq_false]
   refine ⟨s[j],List.getElem_mem hj,?_⟩
   have e : s.getD j 0 = s[j]:=by simp [List.getD,hj]
   rw [e] at h; rw [h]; decide
  simp [this]
theorem ident_end {s : List UInt8} (h : idOk s.length s) : ident s = (s != [] && decide (s.length ≤ 64)):=by
 unfold ident
 cases s with
 | nil => rfl
 | cons c t =>
  have h0 : letter ((c :: t).getD 0 0) = true:=by
   have:=h 0 (by simp)
   unfold first at this
   rwa [if_pos rfl] at this
  have h1 : (c :: t).all wordB = true:=by
   rw [List.all_eq_true]
   intro x hx
   obtain ⟨j,hj,rfl⟩:=List.getElem_of_mem hx
   have:=h j hj
   have e : (c :: t).getD j 0 = (c :: t)[j]:=by rw [List.getD_eq_getElem?_getD,List.getElem?_eq_getElem hj]; rfl
   unfold first at this
   rw [e] at this
   split at this
   ·exact wordB_of_letter this
   ·exact this
  rw [h0,h1]
  simp
set_option maxRecDepth 100000 in
theorem or_letter : ∀ n : Fin 256,letter (UInt8.ofNat n.val) = !((((n.val : Nat) : Int) != 95) && (decide (bits .or .u8 ((n.val : Nat) : Int) 32 < 97) || decide (bits .or .u8 ((n.val : Nat) : Int) 32 > 122))):=by decide +kernel
theorem letter_or (c : UInt8) : letter c = !(((c.toNat : Int) != 95) && (decide (bits .or .u8 (c.toNat : Int) 32 < 97) || decide (bits .or .u8 (c.toNat : Int) 32 > 122))):=by
 have:=or_letter ⟨c.toNat,c.toNat_lt⟩
 simpa using this
end Adr
namespace AX
def c_ident : AX.AFn:=⟨50,aS [aR 2 (.mv (.c (.bool false)))] (.seq (aS [aM 5 0,aR 6 (.len true (.t 5)),aR 7 (.mv (aI 0))] (.block 0 (.loop (aS [aR 8 (.bin .lss (.t 7) (.t 6))] (.seq (.cond (.t 8) (.skip) (.exit 0)) (.seq (.block 1 (aS [aM 9 7,aM 3 9] (aS [aM 10 0,aM 11 3,aR 12 (.sidx (.t 10) (.t 11)),aR 13 (.bin .or (.t 12) (.c (.int .u8 32))),aM 4 13] (aS [aM 14 0,aM 15 3,aR 16 (.sidx (.t 14) (.t 15)),aR 17 (.bin .neq (.t 16) (.c (.int .u8 95))),aM 18 17,aG 19 (.mv (.t 4)) 18 true,aG 20 (.bin .lss (.t 19) (.c (.int .u8 97))) 18 true,aG 21 (.mv (.t 20)) 18 true,aG 22 (.mv (.t 4)) 21 false,aG 23 (.bin .gtr (.t 22) (.c (.int .u8 122))) 21 false,aG 24 (.pick (.t 21) (.c (.bool true)) (.t 23)) 18 true,aR 25 (.pick (.t 18) (.t 24) (.c (.bool false))),aM 26 25,aG 27 (.mv (.t 3)) 26 true,aG 28 (.bin .eql (.t 27) (aI 0)) 26 true,aG 29 (.mv (.t 28)) 26 true,aG 30 (.mv (.t 0)) 29 false,aG 31 (.mv (.t 3)) 29 false,aG 32 (.sidx (.t 30) (.t 31)) 29 false,aG 33 (.bin .lss (.t 32) (.c (.int .u8 48))) 29 false,aG 34 (.pick (.t 29) (.c (.bool true)) (.t 33)) 26 true,aG 35 (.mv (.t 34)) 26 true,aG 36 (.mv (.t 0)) 35 false,aG 37 (.mv (.t 3)) 35 false,aG 38 (.sidx (.t 36) (.t 37)) 35 false,aG 39 (.bin .gtr (.t 38) (.c (.int .u8 57))) 35 false,aG 40 (.pick (.t 35) (.c (.bool true)) (.t 39)) 26 true,aR 41 (.pick (.t 26) (.t 40) (.c (.bool false)))] (.cond (.t 41) (aS [aR 2 (.mv (.c (.bool false)))] (.ret)) (.skip)))))) (.reg false [aR 42 (.bin .add (.t 7) (aI 1)),aM 7 42]))))))) (aS [aM 43 0,aR 44 (.bin .neq (.t 43) (.c (.str []))),aM 45 44,aG 46 (.mv (.t 0)) 45 true,aG 47 (.len true (.t 46)) 45 true,aG 48 (.bin .leq (.t 47) (aI 64)) 45 true,aR 49 (.pick (.t 45) (.t 48) (.c (.bool false))),aM 2 49] (.ret))),[.t 2]⟩
theorem h_ident : AX.compFn Tryz.prog 184 = some c_ident:=by kernel_rfl
def c_lcutp : AX.AFn:=⟨15,aS [aR 4 (.mv (.c (.str []))),aR 5 (.mv (.c (.bool false)))] (.seq (aS [aM 6 0,aM 7 1,aR 8 (.call 164 [.t 6,.t 7]),aR 9 (.un .not (.t 8))] (.cond (.t 9) (aS [aM 10 0,aM 4 10,aR 5 (.mv (.c (.bool false)))] (.ret)) (.skip))) (aS [aM 11 0,aM 12 1,aR 13 (.len true (.t 12)),aR 14 (.ssl (.t 11) (some (.t 13)) none),aM 4 14,aR 5 (.mv (.c (.bool true)))] (.ret))),[.t 4,.t 5]⟩
theorem h_lcutp : AX.compFn Tryz.prog 310 = some c_lcutp:=by kernel_rfl
def c_cutp : AX.AFn:=⟨11,aS [aR 4 (.mv (.c (.str []))),aR 5 (.mv (.c (.bool false)))] (aS [aM 6 0,aM 7 1,aR 8 (.call 310 [.t 6,.t 7]),aE 9 8 0,aE 10 8 1,aM 4 9,aM 5 10] (.ret)),[.t 4,.t 5]⟩
theorem h_cutp : AX.compFn Tryz.prog 283 = some c_cutp:=by kernel_rfl
def c_ahas : AX.AFn:=⟨21,aS [aR 4 (.mv (.c (.bool false)))] (aS [aM 8 0,aR 9 (.nilck (.t 8)),aF 10 0 9,aL 11 10,aM 12 1,aR 13 (.call 283 [.t 11,.t 12]),aM 7 13,aE 14 7 0,aE 15 7 1,aM 5 14,aM 6 15] (aS [aM 16 0,aM 17 5,aR 18 (.nilck (.t 16)),aF 19 0 18,aU (.store 1 (.t 19) (.t 17))] (aS [aM 20 6,aM 4 20] (.ret)))),[.t 4]⟩
theorem h_ahas : AX.compFn Tryz.prog 236 = some c_ahas:=by kernel_rfl
def c_askip : AX.AFn:=⟨30,aS [aM 7 0,aR 8 (.nilck (.t 7)),aF 9 0 8,aL 10 9,aM 11 1,aR 12 (.call 283 [.t 10,.t 11]),aM 6 12,aE 13 6 0,aE 14 6 1,aM 4 13,aM 5 14] (aS [aM 15 0,aM 16 4,aR 17 (.nilck (.t 15)),aF 18 0 17,aU (.store 1 (.t 18) (.t 16))] (.reg false [aM 19 0,aM 20 0,aR 21 (.nilck (.t 20)),aF 22 1 21,aL 23 22,aM 24 23,aG 25 (.mv (.t 5)) 24 false,aG 26 (.un .not (.t 25)) 24 false,aR 27 (.pick (.t 24) (.c (.bool true)) (.t 26)),aR 28 (.nilck (.t 19)),aF 29 1 28,aU (.store 1 (.t 29) (.t 27))])),[]⟩
theorem h_askip : AX.compFn Tryz.prog 238 = some c_askip:=by kernel_rfl
theorem a_ident (s : List UInt8) (hl : s.length ≤ 2000000) (h : Hp) : ACall Tryz.prog GT 184 [.str s] h fun r h' => r = .bool (Adr.ident s) ∧ h' = h:=by
 refine pcall ?_ rfl (by simp [A.pure,A.data]) h
 refine acall_of mixedT h_ident (by simp [c_ident]) ?_
 dsimp only [c_ident]
 refine run0 ti ?_
 refine awp_loop (fun mm ts h => ∃ (j : Nat),mm = s.length - j ∧ j ≤ s.length ∧ h = ⟨[],[]⟩ ∧ Adr.idOk j s ∧ ts 0 = .str s ∧ ts 6 = .int .i64 (s.length : Nat) ∧ ts 7 = .int .i64 (j : Nat)) s.length ?_ ?_
 ·exact ⟨0,by omega,by omega,rfl,fun k hk => absurd hk (Nat.not_lt_zero k),by (exact ev0 ti),by (exact ev0 ti),by (exact inv0 ti)⟩
 rintro mm ts h ⟨j,rfl,hjc,rfl,hok,t0,t6,t7⟩
 by_cases hj : j < s.length
 ·have hlt : (j : Int) < (s.length : Int):=by omega
  have hj0 : (0 : Int) ≤ (j : Int):=by omega
  have ei : IntKind.i64.wrap ((j : Int) + 1) = ((j + 1 : Nat) : Int):=by rw [wrap64 (by omega) (by omega)]; omega
  obtain ⟨c,hc⟩ : ∃ c,s.getD j 0 = c:=⟨_,rfl⟩
  have hfl : Adr.letter c = false → j = 0 ∨ Adr.wordB c = false → Adr.ident s = false:=fun h1 h2 => Adr.ident_fail hj (by
   rw [hc]; unfold Adr.first
   rcases h2 with h2 | h2
   ·rw [if_pos h2]; exact h1
   ·split
    ·exact h1
    ·exact h2)
  have hgo : Adr.first j c = true → Adr.idOk (j + 1) s:=fun h1 k hk => by
   by_cases e : k = j
   ·rw [e,hc]; exact h1
   ·exact hok k (by omega)
  have hlo:=Adr.letter_or c
  have hdg:=Num.digB_int c
  have hwb : Adr.wordB c = (Adr.letter c || Num.digB c):=rfl
  obtain ⟨x,hx⟩ : ∃ x : Int,(c.toNat : Int) = x:=⟨_,rfl⟩
  rw [hx] at hlo hdg
  obtain ⟨y,hy⟩ : ∃ y : Int,bits .or .u8 x 32 = y:=⟨_,rfl⟩
  rw [hy] at hlo
  have next : Adr.first j c = true → ∃ m',m' < s.length - j ∧ ∃ (j' : Nat),m' = s.length - j' ∧ j' ≤ s.length ∧ Adr.idOk j' s ∧ j' = j + 1:=fun h1 => ⟨s.length - (j + 1),by omega,j + 1,rfl,by omega,hgo h1,rfl⟩
  by_cases h95 : x = 95
  ·have e1 : (x != 95) = false:=by simp [h95]
   have hL : Adr.letter c = true:=by rw [hlo,e1]; rfl
   refine run0 (ai t0 (ai t6 (ai t7 (ai hlt (ai hj0 (ai hc (ai hx (ai hy (ai e1 ei))))))))) ?_
   exact ⟨s.length - (j + 1),by omega,j + 1,rfl,by omega,rfl,hgo (by unfold Adr.first; split; exact hL; rw [hwb,hL]; rfl),by (exact ev0 t0),by (exact ev0 t6),by (exact ev0 ei)⟩
  have e1 : (x != 95) = true:=by simp [h95]
  by_cases h97 : y < 97 ∨ y > 122
  rotate_left
  ·have e2 : ¬ y < 97:=by omega
   have e3 : ¬ y > 122:=by omega
   have hL : Adr.letter c = true:=by rw [hlo,e1,decide_eq_false e2,decide_eq_false e3]; rfl
   refine run0 (ai t0 (ai t6 (ai t7 (ai hlt (ai hj0 (ai hc (ai hx (ai hy (ai e1 (ai e2 (ai e3 ei))))))))))) ?_
   exact ⟨s.length - (j + 1),by omega,j + 1,rfl,by omega,rfl,hgo (by unfold Adr.first; split; exact hL; rw [hwb,hL]; rfl),by (exact ev0 t0),by (exact ev0 t6),by (exact ev0 ei)⟩
  have hL : Adr.letter c = false:=by
   rw [hlo,e1]
   rcases h97 with h97 | h97
   ·rw [decide_eq_true h97]; rfl
   ·rw [decide_eq_true h97,Bool.or_true]; rfl
  have fail : (j = 0 ∨ Adr.wordB c = false) → Adr.ident s = false:=hfl hL
  have e23 : y < 97 ∨ (¬ y < 97 ∧ y > 122):=by omega
  by_cases hz : j = 0
  ·have e4 : ((j : Int) == 0) = true:=by simp [hz]
   have hF:=fail (.inl hz)
   rcases e23 with e2 | ⟨e2,e3⟩
   ·refine run0 (ai t0 (ai t6 (ai t7 (ai hlt (ai hj0 (ai hc (ai hx (ai hy (ai e1 (ai e2 e4)))))))))) ?_
    exact ⟨_,le_refl _,by rw [hF]; rfl⟩
   ·refine run0 (ai t0 (ai t6 (ai t7 (ai hlt (ai hj0 (ai hc (ai hx (ai hy (ai e1 (ai e2 (ai e3 e4))))))))))) ?_
    exact ⟨_,le_refl _,by rw [hF]; rfl⟩
  have e4 : ((j : Int) == 0) = false:=by simp; omega
  by_cases hd : 48 ≤ x ∧ x ≤ 57
  ·have e5 : ¬ x < 48:=by omega
   have e6 : ¬ x > 57:=by omega
   have hW : Adr.wordB c = true:=by rw [hwb,hdg,decide_eq_true hd.1,decide_eq_true hd.2,hL]; rfl
   have hfst : Adr.first j c = true:=by unfold Adr.first; rw [if_neg hz]; exact hW
   rcases e23 with e2 | ⟨e2,e3⟩
   ·refine run0 (ai t0 (ai t6 (ai t7 (ai hlt (ai hj0 (ai hc (ai hx (ai hy (ai e1 (ai e2 (ai e4 (ai e5 (ai e6 ei))))))))))))) ?_
    exact ⟨s.length - (j + 1),by omega,j + 1,rfl,by omega,rfl,hgo hfst,by (exact ev0 t0),by (exact ev0 t6),by (exact ev0 ei)⟩
   ·refine run0 (ai t0 (ai t6 (ai t7 (ai hlt (ai hj0 (ai hc (ai hx (ai hy (ai e1 (ai e2 (ai e3 (ai e4 (ai e5 (ai e6 ei)))))))))))))) ?_
    exact ⟨s.length - (j + 1),by omega,j + 1,rfl,by omega,rfl,hgo hfst,by (exact ev0 t0),by (exact ev0 t6),by (exact ev0 ei)⟩
  ·have hD : Num.digB c = false:=by
    rw [hdg]
    by_cases a : 48 ≤ x
    ·rw [decide_eq_true a,decide_eq_false (by omega)]; rfl
    ·rw [decide_eq_false a]; rfl
   have hF:=fail (.inr (by rw [hwb,hL,hD]; rfl))
   have e56 : x < 48 ∨ (¬ x < 48 ∧ x > 57):=by omega
   rcases e23 with e2 | ⟨e2,e3⟩
   ·rcases e56 with e5 | ⟨e5,e6⟩
    ·refine run0 (ai t0 (ai t6 (ai t7 (ai hlt (ai hj0 (ai hc (ai hx (ai hy (ai e1 (ai e2 (ai e4 e5))))))))))) ?_
     exact ⟨_,le_refl _,by rw [hF]; rfl⟩
    ·refine run0 (ai t0 (ai t6 (ai t7 (ai hlt (ai hj0 (ai hc (ai hx (ai hy (ai e1 (ai e2 (ai e4 (ai e5 e6)))))))))))) ?_
     exact ⟨_,le_refl _,by rw [hF]; rfl⟩
   ·rcases e56 with e5 | ⟨e5,e6⟩
    ·refine run0 (ai t0 (ai t6 (ai t7 (ai hlt (ai hj0 (ai hc (ai hx (ai hy (ai e1 (ai e2 (ai e3 (ai e4 e5)))))))))))) ?_
     exact ⟨_,le_refl _,by rw [hF]; rfl⟩
    ·refine run0 (ai t0 (ai t6 (ai t7 (ai hlt (ai hj0 (ai hc (ai hx (ai hy (ai e1 (ai e2 (ai e3 (ai e4 (ai e5 e6))))))))))))) ?_
     exact ⟨_,le_refl _,by rw [hF]; rfl⟩
 ·have hlt : ¬ ((j : Int) < (s.length : Int)):=by omega
  have hje : j = s.length:=by omega
  rw [hje] at hok
  have hE:=Adr.ident_end hok
  by_cases hn : s = []
  ·have e1 : (s != []) = false:=by simp [hn]
   rw [e1] at hE
   refine run0 (ai t0 (ai t6 (ai t7 (ai hlt e1)))) ?_
   exact ⟨_,le_refl _,by rw [hE]; rfl⟩
  ·have e1 : (s != []) = true:=by simp [hn]
   rw [e1] at hE
   have e2 : decide ((s.length : Int) ≤ 64) = decide (s.length ≤ 64):=decide_eq_decide.2 (by omega)
   refine run0 (ai t0 (ai t6 (ai t7 (ai hlt e1)))) ?_
   exact ⟨_,le_refl _,by rw [hE]; first | rfl | (rw [tupA_1,e2]; rfl) | rw [← e2]; rfl⟩
theorem a_lcutp (s p : List UInt8) (h : Hp) : ACall Tryz.prog GT 310 [.str s,.str p] h fun r h' => r = .tup [.str (if Adr.begins s p then s.drop p.length else s),.bool (Adr.begins s p)] ∧ h' = h:=by
 refine pcall ?_ rfl (by simp [A.pure,A.data]) h
 refine acall_of mixedT h_lcutp (by simp [c_lcutp]) ?_
 dsimp only [c_lcutp]
 have hp : (decide (p.length ≤ s.length) && s.take p.length == p) = Adr.begins s p:=by
  unfold Adr.begins
  rw [Bool.eq_iff_iff,List.isPrefixOf_iff_prefix,List.prefix_iff_eq_take,Bool.and_eq_true,decide_eq_true_eq,beq_iff_eq]
  constructor
  ·rintro ⟨h1,h2⟩; exact h2.symm
  ·intro h2
   exact ⟨by have:=congrArg List.length h2; rw [List.length_take] at this; omega,h2.symm⟩
 have hc:=fun h => a_liteHasPrefix s p h
 rw [hp] at hc
 refine run0 ti ?_
 refine use (hc _) ?_
 cases hB : Adr.begins s p
 ·refine run0 ti ?_
  exact ⟨_,le_refl _,rfl⟩
 ·have hle : (p.length : Int) ≤ (s.length : Int):=by have:=Adr.begins_len hB; omega
  have h0 : (0 : Int) ≤ (p.length : Int):=by omega
  refine run0 (ai hle h0) ?_
  refine ⟨_,le_refl _,?_⟩
  rw [if_pos rfl]
  first | rfl | (rw [tupA_2]; simp)
theorem a_cutp (s p : List UInt8) (h : Hp) : ACall Tryz.prog GT 283 [.str s,.str p] h fun r h' => r = .tup [.str (if Adr.begins s p then s.drop p.length else s),.bool (Adr.begins s p)] ∧ h' = h:=by
 refine pcall ?_ rfl (by simp [A.pure,A.data]) h
 refine acall_of mixedT h_cutp (by simp [c_cutp]) ?_
 dsimp only [c_cutp]
 refine run0 ti ?_
 refine use (a_lcutp s p _) ?_
 refine run0 ti ?_
 exact ⟨_,le_refl _,rfl⟩
def adB (r : Adr.Rd) : Blk:=.cells 271 [.str r.rest,.bool r.bad]
theorem adB_loc (r : Adr.Rd) : (adB r).loc 0:=rfl
theorem w_has (p : List UInt8) (r : Adr.Rd) {h : Hp} {i : Nat} (hb : h.b[i]? = some (adB r)) :
  ACall Tryz.prog GT 236 [.ptr i 0,.str p] h fun v h' => v = .bool (Adr.hasP p r).1 ∧ h' = ⟨h.b.set i (adB (Adr.hasP p r).2),h.t⟩:=by
 have key : ACall Tryz.prog GT 236 [.ptr 0 0,.str p] ⟨[adB r],[]⟩ fun v h' => ∃ b',h'.b[0]? = some b' ∧ v = .bool (Adr.hasP p r).1 ∧ b' = adB (Adr.hasP p r).2:=by
  refine acall_of mixedT h_ahas (by simp [c_ahas]) ?_
  dsimp only [c_ahas]
  unfold adB
  refine run0 ti ?_
  refine use (a_cutp r.rest p _) ?_
  unfold Adr.hasP
  cases hB : Adr.begins r.rest p
  ·refine run0 ti ?_
   exact ⟨_,le_refl _,_,rfl,rfl,rfl⟩
  ·refine run0 ti ?_
   exact ⟨_,le_refl _,_,rfl,rfl,rfl⟩
 refine (ACall.lift1 key rfl (adB_loc r) ?_ hb).mono ?_
 ·rintro v b' ⟨rfl,rfl⟩; exact ⟨rfl,adB_loc _⟩
 ·rintro v h' ⟨b',⟨rfl,rfl⟩,rfl⟩; exact ⟨rfl,rfl⟩
theorem w_skip (p : List UInt8) (r : Adr.Rd) {h : Hp} {i : Nat} (hb : h.b[i]? = some (adB r)) :
  ACall Tryz.prog GT 238 [.ptr i 0,.str p] h fun v h' => v = .tup [] ∧ h' = ⟨h.b.set i (adB (Adr.skipP p r)),h.t⟩:=by
 have key : ACall Tryz.prog GT 238 [.ptr 0 0,.str p] ⟨[adB r],[]⟩ fun v h' => ∃ b',h'.b[0]? = some b' ∧ v = .tup [] ∧ b' = adB (Adr.skipP p r):=by
  obtain ⟨rest,bad⟩:=r
  refine acall_of mixedT h_askip (by simp [c_askip]) ?_
  dsimp only [c_askip]
  unfold adB
  refine run0 ti ?_
  refine use (a_cutp rest p _) ?_
  unfold Adr.skipP
  dsimp only
  cases hB : Adr.begins rest p
  ·cases bad
   ·refine run0 ti ?_
    exact ⟨_,le_refl _,_,rfl,rfl,rfl⟩
   ·refine run0 ti ?_
    exact ⟨_,le_refl _,_,rfl,rfl,rfl⟩
  ·cases bad
   ·refine run0 ti ?_
    exact ⟨_,le_refl _,_,rfl,rfl,rfl⟩
   ·refine run0 ti ?_
    exact ⟨_,le_refl _,_,rfl,rfl,rfl⟩
 refine (ACall.lift1 key rfl (adB_loc r) ?_ hb).mono ?_
 ·rintro v b' ⟨rfl,rfl⟩; exact ⟨rfl,adB_loc _⟩
 ·rintro v h' ⟨b',⟨rfl,rfl⟩,rfl⟩; exact ⟨rfl,rfl⟩
end AX
namespace Sf
end Sf
namespace AX
def c_wflag : AX.AFn:=⟨9,aS [aR 4 (.mv (aI 0))] (.seq (aS [aM 5 1] (.cond (.t 5) (.reg false [aR 4 (.mv (aI 1))]) (.skip))) (.reg false [aM 6 0,aM 7 4,aR 8 (.call 266 [.t 6,.t 7])])),[]⟩
theorem h_wflag : AX.compFn Tryz.prog 269 = some c_wflag:=by kernel_rfl
theorem wtr_loc (ver : Int) (l : List UInt8) : (wtr ver l).loc 0:=by
 intro o x h
 simp only [wtr] at h
 split at h
 ·injection h with h; subst h; rfl
 ·cases h
theorem liftW {f : FuncId} {args : List A} {ver : Int} {l l' : List UInt8} (hl' : l' ≠ []) (hc : ACall Tryz.prog GT f (.ptr 0 0 :: args) ⟨[wtr ver l],[]⟩ fun u h' => u = .tup [] ∧ WP 0 ver l' ⟨[wtr ver l],[]⟩ h') (ha : A.locL 0 args = true) {h : Hp} {i : Nat} (hb : h.b[i]? = some (wtr ver l)) :
  ACall Tryz.prog GT f (.ptr i 0 :: args) h fun u h' => u = .tup [] ∧ h' = ⟨h.b.set i (wtr ver l'),h.t⟩:=by
 have h1 : ACall Tryz.prog GT f (.ptr 0 0 :: args) ⟨[wtr ver l],[]⟩ fun u h' => ∃ b',h'.b[0]? = some b' ∧ u = .tup [] ∧ b' = wtr ver l':=hc.mono fun u h' ⟨e,hp⟩ => ⟨wtr ver l',WP.bx hp hl',e,rfl⟩
 refine (ACall.lift1 h1 ha (wtr_loc ver l) ?_ hb).mono ?_
 ·rintro u b' ⟨rfl,rfl⟩
  exact ⟨rfl,wtr_loc ver l'⟩
 ·rintro u h' ⟨b',⟨rfl,rfl⟩,rfl⟩
  exact ⟨rfl,rfl⟩
theorem num_ne (n : Int) : Wire.num n ≠ []:=by
 have:=(Wire.encF_len 9 (Wire.zig n)).1
 intro e
 have h : (Wire.num n).length = 0:=by rw [e]; rfl
 unfold Wire.num at h
 omega
theorem app_ne {a b : List UInt8} (h : b ≠ []) : a ++ b ≠ []:=by simp [h]
theorem wn {h : Hp} {i : Nat} {ver : Int} {l : List UInt8} (hb : h.b[i]? = some (wtr ver l)) (n : Int) (hlen : l.length + 10 ≤ 1000000000) (h0 : -9223372036854775808 ≤ n) (h1 : n ≤ 9223372036854775807) :
  ACall Tryz.prog GT 266 [.ptr i 0,.int .i64 n] h fun u h' => u = .tup [] ∧ h' = ⟨h.b.set i (wtr ver (l ++ Wire.num n)),h.t⟩:=
 liftW (app_ne (num_ne n)) (a_wnum (h:=⟨[wtr ver l],[]⟩) (.inl rfl) n hlen h0 h1) rfl hb
theorem wf {h : Hp} {i : Nat} {ver : Int} {l : List UInt8} (hb : h.b[i]? = some (wtr ver l)) (b : Bool) (hlen : l.length + 10 ≤ 1000000000) :
  ACall Tryz.prog GT 269 [.ptr i 0,.bool b] h fun u h' => u = .tup [] ∧ h' = ⟨h.b.set i (wtr ver (l ++ Sf.flagE b)),h.t⟩:=by
 refine acall_of mixedT h_wflag (by simp [c_wflag]) ?_
 dsimp only [c_wflag]
 cases b
 ·refine run0 ti ?_
  refine use (wn hb _ hlen (by decide) (by decide)) ?_
  refine run0 ti ?_
  exact ⟨_,le_refl _,rfl,rfl⟩
 ·refine run0 ti ?_
  refine use (wn hb _ hlen (by decide) (by decide)) ?_
  refine run0 ti ?_
  exact ⟨_,le_refl _,rfl,rfl⟩
theorem map_getD {α : Type} (f : α → List A) (l : List α) (j : Nat) (hj : j < l.length) : (l.map f).getD j [] = f l[j]:=by simp [List.getD,hj]
def c_stext : AX.AFn:=⟨9,aS [aR 2 (.mv (.c (.bool false)))] (aS [aM 3 0,aR 4 (.bin .neq (.t 3) (.c (.str []))),aM 5 4,aG 6 (.mv (.t 0)) 5 true,aG 7 (.call 85 [.t 6]) 5 true,aR 8 (.pick (.t 5) (.t 7) (.c (.bool false))),aM 2 8] (.ret)),[.t 2]⟩
theorem h_stext : AX.compFn Tryz.prog 103 = some c_stext:=by kernel_rfl
def c_scheck : AX.AFn:=⟨128,aS [aR 1 (.box 39 (.t 0)),aR 2 (.mv (aI 0))] (.seq (aS [aF 11 0 1,aL 12 11,aR 13 (.call 103 [.t 12]),aR 14 (.un .not (.t 13))] (.cond (.t 14) (aS [aR 2 (.mv (aI 1))] (.ret)) (.skip))) (.seq (aS [aF 15 1 1,aL 16 15,aR 17 (.bin .lss (.t 16) (aI 0)),aM 18 17,aG 19 (.faddr 1 (.t 1)) 18 false,aG 20 (.load false 1 (.t 19)) 18 false,aG 21 (.bin .gtr (.t 20) (aI 9007199254740992)) 18 false,aR 22 (.pick (.t 18) (.c (.bool true)) (.t 21))] (.cond (.t 22) (aS [aR 2 (.mv (aI 5))] (.ret)) (.skip))) (.seq (aS [aF 23 2 1,aL 24 23,aR 25 (.len false (.t 24)),aF 26 3 1,aL 27 26,aR 28 (.len false (.t 27)),aF 29 4 1,aL 30 29,aR 31 (.len false (.t 30)),aR 32 (.max3 (.t 25) (.t 28) (.t 31)),aR 33 (.bin .gtr (.t 32) (aI 512))] (.cond (.t 33) (aS [aR 2 (.mv (aI 14))] (.ret)) (.skip))) (.seq (aS [aF 34 2 1,aL 35 34,aR 36 (.len false (.t 35)),aR 37 (.mv (aI 0))] (.block 0 (.loop (aS [aR 38 (.bin .lss (.t 37) (.t 36))] (.seq (.cond (.t 38) (.skip) (.exit 0)) (.seq (.block 1 (aS [aM 39 37,aR 40 (.iaddr 13 (.t 35) (.t 37)),aR 41 (.load true 13 (.t 40)),aR 4 (.alloc 73 [.str [],.str [],.str [],.str [],.int .i64 0,.int .i64 0,.str [],.sl 0 .nil [],.sl 0 .nil [],.int .i64 0,.bool false,.bool false,.sl 0 .nil []]),aM 3 39,aU (.store 13 (.t 4) (.t 41))] (.seq (aS [aR 42 (.load true 13 (.t 4)),aR 43 (.call 104 [.t 42]),aM 5 43] (aS [aM 44 5,aR 45 (.bin .neq (.t 44) (aI 0))] (.cond (.t 45) (aS [aM 46 5,aM 2 46] (.ret)) (.skip)))) (.seq (.reg true [aM 47 3,⟨some 48,.bin .gtr (.t 47) (aI 0),none,[0]⟩,⟨some 49,.mv (.t 48),none,[1]⟩,⟨some 50,.faddr 2 (.t 1),some (49,true),[2]⟩,⟨some 51,.load false 1 (.t 50),some (49,true),[3,2]⟩,⟨some 52,.mv (.t 3),some (49,true),[2]⟩,⟨some 53,.bin .sub (.t 52) (aI 1),some (49,true),[5,2]⟩,⟨some 54,.iaddr 13 (.t 51) (.t 53),some (49,true),[4,6,2]⟩,⟨some 55,.load true 13 (.t 54),some (49,true),[7,2]⟩,⟨some 56,.call 105 [.t 55],some (49,true),[8,2,2]⟩,⟨some 57,.load true 13 (.t 4),some (49,true),[2]⟩,⟨some 58,.call 105 [.t 57],some (49,true),[10,9,2]⟩,⟨some 59,.call 106 [.t 56,.t 58],some (49,true),[9,11,11,2]⟩,⟨some 60,.bin .geq (.t 59) (aI 0),some (49,true),[12,2]⟩,⟨some 61,.pick (.t 49) (.t 60) (.c (.bool false)),none,[2,13]⟩]) (.cond (.t 61) (aS [aR 2 (.mv (aI 1))] (.ret)) (.skip)))))) (.reg false [aR 62 (.bin .add (.t 37) (aI 1)),aM 37 62]))))))) (.seq (aS [aF 63 3 1,aL 64 63,aR 65 (.len false (.t 64)),aR 66 (.mv (aI 0))] (.block 2 (.loop (aS [aR 67 (.bin .lss (.t 66) (.t 65))] (.seq (.cond (.t 67) (.skip) (.exit 2)) (.seq (.block 3 (aS [aM 68 66,aR 69 (.iaddr 3 (.t 64) (.t 66)),aR 70 (.load true 3 (.t 69)),aR 7 (.alloc 121 [.str [],.str [],.str []]),aM 6 68,aU (.store 3 (.t 7) (.t 70))] (.seq (.reg true [aF 71 2 7,⟨some 72,.load false 1 (.t 71),none,[0]⟩,⟨some 73,.call 103 [.t 72],none,[1]⟩,⟨some 74,.un .not (.t 73),none,[2]⟩,⟨some 75,.mv (.t 74),none,[3,2]⟩,⟨some 76,.faddr 0 (.t 7),some (75,false),[4]⟩,⟨some 77,.load false 1 (.t 76),some (75,false),[5,4]⟩,⟨some 78,.faddr 1 (.t 7),some (75,false),[4]⟩,⟨some 79,.load false 1 (.t 78),some (75,false),[7,4]⟩,⟨some 80,.call 107 [.t 77,.t 79],some (75,false),[6,8,4,4]⟩,⟨some 81,.un .not (.t 80),some (75,false),[9,4]⟩,⟨some 82,.pick (.t 75) (.c (.bool true)) (.t 81),none,[4,10]⟩,⟨some 83,.mv (.t 82),none,[11,9]⟩,⟨some 84,.mv (.t 6),some (83,false),[12]⟩,⟨some 85,.bin .gtr (.t 84) (aI 0),some (83,false),[13,12]⟩,⟨some 86,.mv (.t 85),some (83,false),[14,12,12]⟩,⟨some 87,.faddr 3 (.t 1),some (86,true),[15]⟩,⟨some 88,.load false 1 (.t 87),some (86,true),[16,15]⟩,⟨some 89,.mv (.t 6),some (86,true),[15]⟩,⟨some 90,.bin .sub (.t 89) (aI 1),some (86,true),[18,15]⟩,⟨some 91,.iaddr 3 (.t 88) (.t 90),some (86,true),[17,19,15]⟩,⟨some 92,.faddr 2 (.t 91),some (86,true),[20,15]⟩,⟨some 93,.load false 1 (.t 92),some (86,true),[21,15]⟩,⟨some 94,.faddr 2 (.t 7),some (86,true),[15]⟩,⟨some 95,.load false 1 (.t 94),some (86,true),[23,15]⟩,⟨some 96,.bin .geq (.t 93) (.t 95),some (86,true),[22,24,15]⟩,⟨some 97,.pick (.t 86) (.t 96) (.c (.bool false)),some (83,false),[15,25,12]⟩,⟨some 98,.pick (.t 83) (.c (.bool true)) (.t 97),none,[12,26]⟩]) (.cond (.t 98) (aS [aR 2 (.mv (aI 1))] (.ret)) (.skip))))) (.reg false [aR 99 (.bin .add (.t 66) (aI 1)),aM 66 99]))))))) (.seq (aS [aF 100 4 1,aL 101 100,aR 102 (.len false (.t 101)),aR 103 (.mv (aI 0))] (.block 4 (.loop (aS [aR 104 (.bin .lss (.t 103) (.t 102))] (.seq (.cond (.t 104) (.skip) (.exit 4)) (.seq (.block 5 (aS [aM 105 103,aR 106 (.iaddr 7 (.t 101) (.t 103)),aR 107 (.load true 7 (.t 106)),aR 9 (.alloc 132 [.str [],.int .i64 0,.int .i64 0,.str [],.sl 0 .nil [],.sl 0 .nil [],.bool false]),aM 8 105,aU (.store 7 (.t 9) (.t 107))] (.seq (aS [aR 108 (.load true 7 (.t 9)),aR 109 (.call 108 [.t 108]),aM 10 109] (aS [aM 110 10,aR 111 (.bin .neq (.t 110) (aI 0))] (.cond (.t 111) (aS [aM 112 10,aM 2 112] (.ret)) (.skip)))) (.seq (.reg true [aM 113 8,⟨some 114,.bin .gtr (.t 113) (aI 0),none,[0]⟩,⟨some 115,.mv (.t 114),none,[1]⟩,⟨some 116,.faddr 4 (.t 1),some (115,true),[2]⟩,⟨some 117,.load false 1 (.t 116),some (115,true),[3,2]⟩,⟨some 118,.mv (.t 8),some (115,true),[2]⟩,⟨some 119,.bin .sub (.t 118) (aI 1),some (115,true),[5,2]⟩,⟨some 120,.iaddr 7 (.t 117) (.t 119),some (115,true),[4,6,2]⟩,⟨some 121,.faddr 0 (.t 120),some (115,true),[7,2]⟩,⟨some 122,.load false 1 (.t 121),some (115,true),[8,2]⟩,⟨some 123,.faddr 0 (.t 9),some (115,true),[2]⟩,⟨some 124,.load false 1 (.t 123),some (115,true),[10,2]⟩,⟨some 125,.bin .geq (.t 122) (.t 124),some (115,true),[9,11,2]⟩,⟨some 126,.pick (.t 115) (.t 125) (.c (.bool false)),none,[2,12]⟩]) (.cond (.t 126) (aS [aR 2 (.mv (aI 1))] (.ret)) (.skip)))))) (.reg false [aR 127 (.bin .add (.t 103) (aI 1)),aM 103 127]))))))) (aS [aR 2 (.mv (aI 0))] (.ret)))))))),[.t 2]⟩
theorem h_scheck : AX.compFn Tryz.prog 58 = some c_scheck:=by kernel_rfl
theorem a_stext (s : List UInt8) (hs : s.length ≤ 2000000) (h : Hp) : ACall Tryz.prog GT 103 [.str s] h fun r h' => r = .bool (s != [] && Str.valid s) ∧ h' = h:=by
 refine pcall ?_ rfl (by simp [A.pure,A.data]) h
 refine acall_of mixedT h_stext (by simp [c_stext]) ?_
 dsimp only [c_stext]
 rcases bool_or (s != []) with h1 | h1
 ·refine go0 h1 ?_
  refine gc0 h1 ?_
  refine (a_valid s hs _).mono ?_
  rintro v h1' ⟨rfl,rfl⟩
  refine go0 h1 ?_
  exact ⟨_,le_refl _,by rw [tupA_1,h1]; rfl⟩
 ·refine go0 h1 ?_
  exact ⟨_,le_refl _,by rw [tupA_1,h1]; rfl⟩
theorem a_csAppend (s : List UInt8) (hs : s.length ≤ 1000000000) (h : Hp) : ACall Tryz.prog GT 120 [.str s] h fun v h' => v = .str (Crc.app s) ∧ h' = h:=
 acall_imp (args1 r_str) (fun w hg => append_any ⟨s.toArray⟩ w (by rw [size_mk]; exact hs)) (fun C => rep_str.2 rfl) h
theorem a_csVerify (s : List UInt8) (hs : s.length ≤ 1000000000) (h : Hp) : ACall Tryz.prog GT 96 [.str s] h fun v h' => v = .tup [.str (Crc.ver s).1,.int .i64 (Crc.ver s).2] ∧ h' = h:=
 acall_imp (args1 r_str) (fun w hg => verify_any ⟨s.toArray⟩ w (by rw [size_mk]; exact hs)) (fun C => rep_tup.2 ⟨_,rfl,repL_cons.2 ⟨_,_,rfl,rep_str.2 rfl,repL_cons.2 ⟨_,_,rfl,rep_int.2 rfl,repL_nil.2 rfl⟩⟩⟩) h
def stE : A:=.agg [.str [],.int .i64 0,.sl 0 .nil [],.sl 0 .nil [],.sl 0 .nil []]
end AX
namespace Sf
def zero : St:=⟨[],0,[],[],[]⟩
def encode (ver : Int) (st : St) : List UInt8 × Int:=
 if checkZ st ≠ 0 then ([],checkZ st) else if 1048572 < (stE ver st).length then ([],3) else (Crc.app (stE ver st),0)
def decode (s : List UInt8) : St × Int:=
 if 1048576 < s.length then (zero,3)
 else if AX.preB s = false then (zero,2)
 else if (Crc.ver s).2 ≠ 0 then (zero,20)
 else if (AX.versionS (Crc.ver s).1).2 ≠ 0 then (zero,(AX.versionS (Crc.ver s).1).2)
 else
  let r:=stateS (AX.versionS (Crc.ver s).1).1 ⟨(Wire.numR ⟨(Crc.ver s).1.drop 4,0⟩).1,false⟩
  if r.1.fails || decide (0 < r.1.r.rest.length) || checkZ r.2 != 0 then (zero,2) else (r.2,0)
end Sf
namespace AX
def SCheck (st : Sf.St) : Prop:=∀ h,ACall Tryz.prog GT 58 [st.A] h fun r h' => r = .int .i64 (Sf.checkZ st) ∧ h' = h
end AX
end Go.Proofs.YteklhoajalgehaaGreatDoor

namespace Go.Proofs.YteklhoajalgehaaGreatDoor
open Go.RowKit
open Go.Op (bytesLess)
namespace Adr
def Step.cells (s : Step) : List AX.A:=[.str s.name,.int .i64 s.key.kind,.int .i64 s.key.num,.str s.key.str]
def Ad.cells (a : Ad) : List AX.A:=[.sl 4 .no (a.mods.map Step.cells),.bool a.data,.str a.type,.str a.name,.int .i64 a.key.kind,.int .i64 a.key.num,.str a.key.str]
end Adr
namespace AX
def cmpZ (a b : List UInt8) : Int:=if a == b then 0 else if bytesLess a b then -1 else 1
structure Leafs : Prop where
 parse : ∀ (s : List UInt8),s.length ≤ 2000000 → ∀ h,ACall Tryz.prog GT 183 [.str s] h fun r h' => r = .tup [.agg (Adr.parse s).1.cells,.int .i64 (Adr.parse s).2] ∧ h' = h
 static : ∀ (s : List UInt8),s.length ≤ 2000000 → ∀ h,ACall Tryz.prog GT 234 [.str s] h fun r h' => r = .tup [.str (Adr.static s).1,.int .i64 (Adr.static s).2] ∧ h' = h
 ident : ∀ (s : List UInt8),s.length ≤ 2000000 → ∀ h,ACall Tryz.prog GT 184 [.str s] h fun r h' => r = .bool (Adr.ident s) ∧ h' = h
 num : ∀ (s : List UInt8),s.length ≤ 2000000 → ∀ h,ACall Tryz.prog GT 229 [.str s] h fun r h' => r = .tup [.int .i64 (Num.parse s).1,.int .i64 (Num.parse s).2] ∧ h' = h
 cmp : ∀ (a b : List UInt8) h,ACall Tryz.prog GT 182 [.str a,.str b] h fun r h' => r = .int .i64 (cmpZ a b) ∧ h' = h
 known : ∀ (v : V),v.lens → ∀ h,ACall Tryz.prog GT 179 [v.A] h fun r h' => r = .bool (Sf.known v) ∧ h' = h
 text : ∀ (s : List UInt8),s.length ≤ 2000000 → ∀ h,ACall Tryz.prog GT 103 [.str s] h fun r h' => r = .bool (Sf.text s) ∧ h' = h
def c_smanaged : AX.AFn:=⟨25,aS [aR 4 (.mv (.c (.bool false)))] (aS [aM 8 0,aR 9 (.call 183 [.t 8]),aM 7 9,aE 10 7 0,aE 11 7 1,aR 5 (.alloc 224 [.sl 0 .nil [],.bool false,.str [],.str [],.int .i64 0,.int .i64 0,.str []]),aU (.store 7 (.t 5) (.t 10)),aM 6 11] (aS [aM 12 6,aR 13 (.bin .eql (.t 12) (aI 0)),aM 14 13,aG 15 (.faddr 1 (.t 5)) 14 true,aG 16 (.load false 1 (.t 15)) 14 true,aG 17 (.un .not (.t 16)) 14 true,aR 18 (.pick (.t 14) (.t 17) (.c (.bool false))),aM 19 18,aG 20 (.faddr 2 (.t 5)) 19 true,aG 21 (.load false 1 (.t 20)) 19 true,aG 22 (.mv (.t 1)) 19 true,aG 23 (.bin .eql (.t 21) (.t 22)) 19 true,aR 24 (.pick (.t 19) (.t 23) (.c (.bool false))),aM 4 24] (.ret))),[.t 4]⟩
theorem h_smanaged : AX.compFn Tryz.prog 107 = some c_smanaged:=by kernel_rfl
def c_skey : AX.AFn:=⟨16,aS [aR 2 (.mv (.c (.bool false)))] (aS [aM 6 0,aR 7 (.call 229 [.t 6]),aM 5 7,aE 8 5 0,aE 9 5 1,aM 3 8,aM 4 9] (aS [aM 10 4,aR 11 (.bin .eql (.t 10) (aI 0)),aM 12 11,aG 13 (.mv (.t 3)) 12 true,aG 14 (.bin .geq (.t 13) (aI 1)) 12 true,aR 15 (.pick (.t 12) (.t 14) (.c (.bool false))),aM 2 15] (.ret))),[.t 2]⟩
theorem h_skey : AX.compFn Tryz.prog 177 = some c_skey:=by kernel_rfl
def c_splaceOf : AX.AFn:=⟨8,aS [aR 1 (.box 73 (.t 0)),aR 2 (.alloc 153 [.str [],.str []])] (aS [aF 3 0 1,aL 4 3,aF 5 1 1,aL 6 5,aR 7 (.build [.str [],.str []] [(0,1,.t 4),(1,1,.t 6)]),aU (.store 2 (.t 2) (.t 7))] (.ret)),[.c 2 true 2]⟩
theorem h_splaceOf : AX.compFn Tryz.prog 105 = some c_splaceOf:=by kernel_rfl
def c_sstatics : AX.AFn:=⟨40,aS [aR 2 (.mv (.c (.bool false)))] (.seq (aS [aM 7 0,aR 8 (.len false (.t 7)),aR 9 (.mv (aI 0))] (.block 0 (.loop (aS [aR 10 (.bin .lss (.t 9) (.t 8))] (.seq (.cond (.t 10) (.skip) (.exit 0)) (.seq (.block 1 (aS [aM 11 9,aR 12 (.iaddr 1 (.t 7) (.t 9)),aL 13 12,aM 3 11,aM 4 13] (aS [aM 15 4,aR 16 (.call 234 [.t 15]),aM 14 16,aE 17 14 0,aE 18 14 1,aM 5 17,aM 6 18] (aS [aM 19 6,aR 20 (.bin .neq (.t 19) (aI 0)),aM 21 20,aG 22 (.mv (.t 5)) 21 false,aG 23 (.mv (.t 4)) 21 false,aG 24 (.bin .neq (.t 22) (.t 23)) 21 false,aR 25 (.pick (.t 21) (.c (.bool true)) (.t 24)),aM 26 25,aG 27 (.mv (.t 3)) 26 false,aG 28 (.bin .gtr (.t 27) (aI 0)) 26 false,aG 29 (.mv (.t 28)) 26 false,aG 30 (.mv (.t 4)) 29 true,aG 31 (.mv (.t 0)) 29 true,aG 32 (.mv (.t 3)) 29 true,aG 33 (.bin .sub (.t 32) (aI 1)) 29 true,aG 34 (.iaddr 1 (.t 31) (.t 33)) 29 true,aG 35 (.load false 1 (.t 34)) 29 true,aG 36 (.bin .leq (.t 30) (.t 35)) 29 true,aG 37 (.pick (.t 29) (.t 36) (.c (.bool false))) 26 false,aR 38 (.pick (.t 26) (.c (.bool true)) (.t 37))] (.cond (.t 38) (aS [aR 2 (.mv (.c (.bool false)))] (.ret)) (.skip)))))) (.reg false [aR 39 (.bin .add (.t 9) (aI 1)),aM 9 39]))))))) (aS [aR 2 (.mv (.c (.bool true)))] (.ret))),[.t 2]⟩
theorem h_sstatics : AX.compFn Tryz.prog 180 = some c_sstatics:=by kernel_rfl
def c_soutput : AX.AFn:=⟨18,aS [aR 1 (.box 132 (.t 0)),aR 2 (.mv (aI 0))] (.seq (aS [aF 4 0 1,aL 5 4,aR 6 (.call 184 [.t 5]),aR 7 (.un .not (.t 6))] (.cond (.t 7) (aS [aR 2 (.mv (aI 7))] (.ret)) (.skip))) (.seq (aS [aF 8 1 1,aR 9 (.load true 5 (.t 8)),aR 10 (.call 178 [.t 9]),aM 3 10] (aS [aM 11 3,aR 12 (.bin .neq (.t 11) (aI 0))] (.cond (.t 12) (aS [aM 13 3,aM 2 13] (.ret)) (.skip)))) (.seq (aS [aF 14 1 1,aR 15 (.load true 5 (.t 14)),aR 16 (.call 179 [.t 15]),aR 17 (.un .not (.t 16))] (.cond (.t 17) (aS [aR 2 (.mv (aI 11))] (.ret)) (.skip))) (aS [aR 2 (.mv (aI 0))] (.ret))))),[.t 2]⟩
theorem h_soutput : AX.compFn Tryz.prog 108 = some c_soutput:=by kernel_rfl
def c_sinstance : AX.AFn:=⟨53,aS [aR 1 (.box 73 (.t 0)),aR 2 (.mv (aI 0))] (.seq (aS [aF 4 0 1,aL 5 4,aF 6 3 1,aL 7 6,aR 8 (.call 107 [.t 5,.t 7]),aR 9 (.un .not (.t 8)),aM 10 9,aG 11 (.faddr 1 (.t 1)) 10 false,aG 12 (.load false 1 (.t 11)) 10 false,aG 13 (.bin .neq (.t 12) (.c (.str []))) 10 false,aG 14 (.mv (.t 13)) 10 false,aG 15 (.faddr 1 (.t 1)) 14 true,aG 16 (.load false 1 (.t 15)) 14 true,aG 17 (.call 177 [.t 16]) 14 true,aG 18 (.un .not (.t 17)) 14 true,aG 19 (.pick (.t 14) (.t 18) (.c (.bool false))) 10 false,aR 20 (.pick (.t 10) (.c (.bool true)) (.t 19)),aM 21 20,aG 22 (.faddr 2 (.t 1)) 21 false,aG 23 (.load false 1 (.t 22)) 21 false,aG 24 (.call 103 [.t 23]) 21 false,aG 25 (.un .not (.t 24)) 21 false,aR 26 (.pick (.t 21) (.c (.bool true)) (.t 25))] (.cond (.t 26) (aS [aR 2 (.mv (aI 1))] (.ret)) (.skip))) (.seq (aS [aF 27 4 1,aR 28 (.load true 5 (.t 27)),aR 29 (.call 178 [.t 28]),aM 3 29] (aS [aM 30 3,aR 31 (.bin .neq (.t 30) (aI 0))] (.cond (.t 31) (aS [aM 32 3,aM 2 32] (.ret)) (.skip)))) (.seq (aS [aF 33 4 1,aF 34 0 33,aL 35 34,aR 36 (.bin .neq (.t 35) (aI 5))] (.cond (.t 36) (aS [aR 2 (.mv (aI 6))] (.ret)) (.skip))) (.seq (aS [aF 37 4 1,aR 38 (.load true 5 (.t 37)),aR 39 (.call 179 [.t 38]),aR 40 (.un .not (.t 39))] (.cond (.t 40) (aS [aR 2 (.mv (aI 11))] (.ret)) (.skip))) (.seq (aS [aF 41 9 1,aL 42 41,aR 43 (.bin .lss (.t 42) (aI 1)),aM 44 43,aG 45 (.faddr 9 (.t 1)) 44 false,aG 46 (.load false 1 (.t 45)) 44 false,aG 47 (.bin .gtr (.t 46) (aI 9007199254740992)) 44 false,aR 48 (.pick (.t 44) (.c (.bool true)) (.t 47))] (.cond (.t 48) (aS [aR 2 (.mv (aI 5))] (.ret)) (.skip))) (.seq (aS [aF 49 12 1,aL 50 49,aR 51 (.call 180 [.t 50]),aR 52 (.un .not (.t 51))] (.cond (.t 52) (aS [aR 2 (.mv (aI 1))] (.ret)) (.skip))) (aS [aR 2 (.mv (aI 0))] (.ret)))))))),[.t 2]⟩
theorem h_sinstance : AX.compFn Tryz.prog 104 = some c_sinstance:=by kernel_rfl
theorem a_managed (L : Leafs) (s t : List UInt8) (hs : s.length ≤ 2000000) (h : Hp) : ACall Tryz.prog GT 107 [.str s,.str t] h fun r h' => r = .bool (Sf.managed s t) ∧ h' = h:=by
 refine pcall ?_ rfl (by simp [A.pure,A.data]) h
 refine acall_of mixedT h_smanaged (by simp [c_smanaged]) ?_
 dsimp only [c_smanaged]
 have hp:=fun h => L.parse s hs h
 unfold Sf.managed
 obtain ⟨⟨⟨mods,data,ty,nm,⟨kk,kn,ks⟩⟩,e⟩,he⟩ : ∃ x,Adr.parse s = x:=⟨_,rfl⟩
 rw [he] at hp ⊢
 simp only [Adr.Ad.cells] at hp
 refine run0 ti ?_
 refine use (hp _) ?_
 dsimp only
 rcases bool_or (e == 0) with e0 | e0
 ·rw [e0]
  (refine AX.run0 e0 ?_)
  first
  | exact ⟨_, le_refl _, rfl⟩
  | (cases data
     · (refine AX.run0 AX.ti ?_)
       exact ⟨_, le_refl _, rfl⟩
     · (refine AX.run0 AX.ti ?_)
       exact ⟨_, le_refl _, rfl⟩)
 ·rw [e0]
  (refine AX.run0 e0 ?_)
  first
  | exact ⟨_, le_refl _, rfl⟩
  | (cases data
     · (refine AX.run0 AX.ti ?_)
       exact ⟨_, le_refl _, rfl⟩
     · (refine AX.run0 AX.ti ?_)
       exact ⟨_, le_refl _, rfl⟩)
theorem a_key (L : Leafs) (s : List UInt8) (hs : s.length ≤ 2000000) (h : Hp) : ACall Tryz.prog GT 177 [.str s] h fun r h' => r = .bool ((Num.parse s).2 == 0 && decide (1 ≤ (Num.parse s).1)) ∧ h' = h:=by
 refine pcall ?_ rfl (by simp [A.pure,A.data]) h
 refine acall_of mixedT h_skey (by simp [c_skey]) ?_
 dsimp only [c_skey]
 have hp:=fun h => L.num s hs h
 obtain ⟨⟨n,e⟩,he⟩ : ∃ x,Num.parse s = x:=⟨_,rfl⟩
 rw [he] at hp ⊢
 dsimp only at hp ⊢
 refine run0 ti ?_
 refine use (hp _) ?_
 rcases bool_or (e == 0) with e0 | e0
 ·rw [e0]
  refine run0 e0 ?_
  exact ⟨_,le_refl _,rfl⟩
 ·rw [e0]
  refine run0 e0 ?_
  exact ⟨_,le_refl _,rfl⟩
theorem a_placeOf (x : Sf.Inst) (h : Hp) : ACall Tryz.prog GT 105 [.agg x.cells] h fun r h' => r = .agg [.str x.addr,.str x.dep] ∧ h' = h:=by
 obtain ⟨a,d,id,ty,⟨k,n,w,vi,vy⟩,v,tn,fi,ds⟩:=x
 refine pcall ?_ rfl (by simp [A.pure,A.data,Sf.Inst.cells]) h
 refine acall_of mixedT h_splaceOf (by simp [c_splaceOf]) ?_
 dsimp only [c_splaceOf,Sf.Inst.cells]
 refine run0 ti ?_
 exact ⟨_,le_refl _,rfl⟩
theorem a_output (L : Leafs) (o : Sf.Outp) (hs : o.name.length ≤ 2000000) (hl : o.value.lens) (h : Hp) : ACall Tryz.prog GT 108 [.agg o.cells] h fun r h' => r = .int .i64 (Sf.outZ o) ∧ h' = h:=by
 have hi:=fun h => L.ident o.name hs h
 have hk:=fun h => L.known o.value hl h
 have hc:=fun h => a_vCheck o.value hl h
 obtain ⟨Z,hZ⟩ : ∃ Z,Sf.outZ o = Z:=⟨_,rfl⟩
 rw [hZ]
 unfold Sf.outZ at hZ
 obtain ⟨m,⟨k,n,w,vi,vy⟩,b⟩:=o
 dsimp only at hi hk hc hZ
 have hVA : (V.mk k n w vi vy).A = .agg [.int .i64 k,.int .i64 n,.str w,.sl 5 .no (V.cellss vi),.sl 1 .no (strsA vy)]:=by simp only [V.A,V.cells]
 rw [hVA] at hk hc
 refine pcall ?_ rfl (by simp [A.pure,A.data,Sf.Outp.cells]) h
 refine acall_of mixedT h_soutput (by simp [c_soutput]) ?_
 dsimp only [c_soutput,Sf.Outp.cells]
 refine run0 ti ?_
 refine use (hi _) ?_
 cases hI : Adr.ident m
 ·rw [hI,if_pos (by decide)] at hZ
  refine run0 ti ?_
  exact ⟨_,le_refl _,by rw [← hZ]; rfl⟩
 rw [hI,if_neg (by decide)] at hZ
 refine run0 ti ?_
 refine use (hc _) ?_
 by_cases hz : Val.checkZ (.mk k n w vi vy) = 0
 rotate_left
 ·have e1 : (Val.checkZ (.mk k n w vi vy) != 0) = true:=by simp [hz]
  rw [if_pos hz] at hZ
  refine run0 e1 ?_
  exact ⟨_,le_refl _,by rw [← hZ]; rfl⟩
 have e1 : (Val.checkZ (.mk k n w vi vy) != 0) = false:=by simp [hz]
 rw [if_neg (by simp [hz])] at hZ
 refine run0 e1 ?_
 refine use (hk _) ?_
 cases hK : Sf.known (.mk k n w vi vy)
 ·rw [hK,if_pos (by decide)] at hZ
  refine run0 ti ?_
  exact ⟨_,le_refl _,by rw [← hZ]; rfl⟩
 ·rw [hK,if_neg (by decide)] at hZ
  refine run0 ti ?_
  exact ⟨_,le_refl _,by rw [← hZ]; rfl⟩
theorem a_statics (L : Leafs) (ds : List (List UInt8)) (hn : ds.length ≤ 1000000000) (hs : ∀ s ∈ ds,s.length ≤ 2000000) (h : Hp) : ACall Tryz.prog GT 180 [.sl 1 .no (strsA ds)] h fun r h' => r = .bool (Sf.depsB none ds) ∧ h' = h:=by
 refine pcall ?_ rfl (by simp [A.pure,A.data]) h
 refine acall_of mixedT h_sstatics (by simp [c_sstatics]) ?_
 dsimp only [c_sstatics]
 obtain ⟨D,hD⟩ : ∃ D,Sf.depsB none ds = D:=⟨_,rfl⟩
 rw [hD]
 have lm : (strsA ds).length = ds.length:=strsA_length ds
 refine run0 lm ?_
 refine awp_loop (fun mm ts h => ∃ (j : Nat),mm = ds.length - j ∧ j ≤ ds.length ∧ h = ⟨[],[]⟩ ∧ Sf.depsB (if j = 0 then none else ds[j - 1]?) (ds.drop j) = D ∧ ts 0 = .sl 1 .no (strsA ds) ∧ ts 7 = .sl 1 .no (strsA ds) ∧ ts 8 = .int .i64 (ds.length : Nat) ∧ ts 9 = .int .i64 (j : Nat)) ds.length ?_ ?_
 ·exact ⟨0,by omega,by omega,rfl,hD,by (exact ev0 ti),by (exact ev0 ti),by (exact ev0 lm),by (exact inv0 ti)⟩
 rintro mm ts h ⟨j,rfl,hjc,rfl,hit,t0,ta,tb,tc⟩
 by_cases hj : j < ds.length
 ·have hlt : (j : Int) < (ds.length : Int):=by omega
  have hlt' : (j : Int) < ((strsA ds).length : Int):=by rw [strsA_length]; exact hlt
  have hj0 : (0 : Int) ≤ (j : Int):=by omega
  have ei : IntKind.i64.wrap ((j : Int) + 1) = ((j + 1 : Nat) : Int):=by rw [wrap64 (by omega) (by omega)]; omega
  have hg:=strsA_get ds j hj
  have hst:=fun h => L.static ds[j] (hs _ (List.getElem_mem hj)) h
  rw [List.drop_eq_getElem_cons hj] at hit
  unfold Sf.depsB at hit
  have hsB : Sf.staticB ds[j] = ((Adr.static ds[j]).2 == 0 && (Adr.static ds[j]).1 == ds[j]):=rfl
  obtain ⟨⟨w,e⟩,hw⟩ : ∃ q,Adr.static ds[j] = q:=⟨_,rfl⟩
  rw [hw] at hst hsB
  dsimp only at hst hsB
  rw [hsB] at hit
  refine run0 (ai t0 (ai ta (ai tb (ai tc (ai hlt (ai hg (ai hlt' hj0))))))) ?_
  refine use (hst _) ?_
  by_cases he : e = 0
  rotate_left
  ·have e1 : (e != 0) = true:=by simp [he]
   have e2 : (e == 0) = false:=by simp [he]
   rw [e2,Bool.false_and,Bool.false_and,Bool.false_and] at hit
   subst hit
   refine run0 (ai t0 (ai ta (ai tb (ai tc e1)))) ?_
   exact ⟨_,le_refl _,rfl⟩
  have e1 : (e != 0) = false:=by simp [he]
  have e2 : (e == 0) = true:=by simp [he]
  rw [e2,Bool.true_and] at hit
  by_cases hw2 : w = ds[j]
  rotate_left
  ·have w1 : (w != ds[j]) = true:=by simp [hw2]
   have w2 : (w == ds[j]) = false:=by simp [hw2]
   rw [w2,Bool.false_and,Bool.false_and] at hit
   subst hit
   refine run0 (ai t0 (ai ta (ai tb (ai tc (ai e1 w1))))) ?_
   exact ⟨_,le_refl _,rfl⟩
  have w1 : (w != ds[j]) = false:=by simp [hw2]
  have w2 : (w == ds[j]) = true:=by simp [hw2]
  rw [w2,Bool.true_and] at hit
  cases j with
  | zero =>
   have h0 : ¬ ((0 : Nat) : Int) > 0:=by omega
   simp only [if_true,Val.badB,Bool.not_false,Bool.true_and] at hit
   refine run0 (ai t0 (ai ta (ai tb (ai tc (ai e1 (ai w1 (ai h0 ei))))))) ?_
   exact ⟨ds.length - 1,by omega,1,rfl,by omega,rfl,by rw [← hit]; simp [hj],by (exact ev0 t0),by (exact ev0 ta),by (exact ev0 tb),by (exact ev0 ei)⟩
  | succ i =>
   have h0 : ((i + 1 : Nat) : Int) > 0:=by omega
   have ej : IntKind.i64.wrap (((i + 1 : Nat) : Int) - 1) = (i : Int):=by rw [wrap64 (by omega) (by omega)]; omega
   have hg2:=strsA_get ds i (by omega)
   have hi' : (i : Int) < ((strsA ds).length : Int):=by omega
   have hi0 : (0 : Int) ≤ (i : Int):=by omega
   have hki : ds[i + 1 - 1]? = some (ds[i]'(by omega)):=List.getElem?_eq_getElem (by omega)
   rw [if_neg (by omega),hki] at hit
   simp only [Val.badB] at hit
   rw [Val.less_total] at hit
   rcases bool_or (bytesLess ds[i + 1] ds[i] || ds[i + 1] == ds[i]) with hb | hb
   ·rw [hb] at hit
    refine run0 (ai t0 (ai ta (ai tb (ai tc (ai e1 (ai w1 (ai h0 (ai ej (ai hg2 (ai hi' (ai hi0 (ai hb ei)))))))))))) ?_
    first
    | (subst hit; exact ⟨_,le_refl _,rfl⟩)
    | exact ⟨ds.length - (i + 1 + 1),by omega,i + 1 + 1,rfl,by omega,rfl,by rw [← hit]; simp [hj],by (exact ev0 t0),by (exact ev0 ta),by (exact ev0 tb),by (exact ev0 ei)⟩
   ·rw [hb] at hit
    refine run0 (ai t0 (ai ta (ai tb (ai tc (ai e1 (ai w1 (ai h0 (ai ej (ai hg2 (ai hi' (ai hi0 (ai hb ei)))))))))))) ?_
    first
    | (subst hit; exact ⟨_,le_refl _,rfl⟩)
    | exact ⟨ds.length - (i + 1 + 1),by omega,i + 1 + 1,rfl,by omega,rfl,by rw [← hit]; simp [hj],by (exact ev0 t0),by (exact ev0 ta),by (exact ev0 tb),by (exact ev0 ei)⟩
 ·have hlt : ¬ ((j : Int) < (ds.length : Int)):=by omega
  rw [List.drop_eq_nil_of_le (by omega)] at hit
  unfold Sf.depsB at hit
  subst hit
  refine run0 (ai t0 (ai ta (ai tb (ai tc hlt)))) ?_
  exact ⟨_,le_refl _,rfl⟩
structure Sf.InstIn (x : Sf.Inst) : Prop where
 a : x.addr.length ≤ 2000000
 d : x.dep.length ≤ 2000000
 i : x.id.length ≤ 2000000
 l : x.attrs.lens
 n : x.deps.length ≤ 1000000000
 ds : ∀ s ∈ x.deps,s.length ≤ 2000000
theorem a_instance (L : Leafs) (x : Sf.Inst) (hx : Sf.InstIn x) (h : Hp) : ACall Tryz.prog GT 104 [.agg x.cells] h fun r h' => r = .int .i64 (Sf.instZ x) ∧ h' = h:=by
 have cm:=fun h => a_managed L x.addr x.typ hx.a h
 have ck:=fun h => a_key L x.dep hx.d h
 have ct:=fun h => L.text x.id hx.i h
 have cv:=fun h => a_vCheck x.attrs hx.l h
 have cn:=fun h => L.known x.attrs hx.l h
 have cs:=fun h => a_statics L x.deps hx.n hx.ds h
 obtain ⟨Z,hZ⟩ : ∃ Z,Sf.instZ x = Z:=⟨_,rfl⟩
 rw [hZ]
 unfold Sf.instZ Sf.keyB at hZ
 obtain ⟨a,d,id,ty,⟨k,n,w,vi,vy⟩,v,tn,fi,ds⟩:=x
 clear hx
 dsimp only at cm ck ct cv cn cs hZ
 have hVA : (V.mk k n w vi vy).A = .agg [.int .i64 k,.int .i64 n,.str w,.sl 5 .no (V.cellss vi),.sl 1 .no (strsA vy)]:=by simp only [V.A,V.cells]
 rw [hVA] at cv cn
 obtain ⟨M,hM⟩ : ∃ M,Sf.managed a ty = M:=⟨_,rfl⟩
 obtain ⟨K,hK⟩ : ∃ K,((Num.parse d).2 == 0 && decide (1 ≤ (Num.parse d).1)) = K:=⟨_,rfl⟩
 obtain ⟨T,hT⟩ : ∃ T,Sf.text id = T:=⟨_,rfl⟩
 obtain ⟨C,hC⟩ : ∃ C,Val.checkZ (.mk k n w vi vy) = C:=⟨_,rfl⟩
 obtain ⟨N,hN⟩ : ∃ N,Sf.known (.mk k n w vi vy) = N:=⟨_,rfl⟩
 obtain ⟨S,hS⟩ : ∃ S,Sf.depsB none ds = S:=⟨_,rfl⟩
 have hkd : Sf.V.kind (.mk k n w vi vy) = k:=rfl
 rw [hM] at cm hZ
 rw [hK] at ck hZ
 rw [hT] at ct hZ
 rw [hC] at cv hZ
 rw [hN] at cn hZ
 rw [hS] at cs hZ
 rw [hkd] at hZ
 refine pcall ?_ rfl (by simp [A.pure,A.data,Sf.Inst.cells]) h
 refine acall_of mixedT h_sinstance (by simp [c_sinstance]) ?_
 dsimp only [c_sinstance,Sf.Inst.cells]
 refine run0 ti ?_
 refine use (cm _) ?_
 cases M
 ·rw [if_pos (by simp)] at hZ
  subst hZ
  refine run0 ti ?_
  exact ⟨_,le_refl _,rfl⟩
 have key : ∀ {G : Prop},((d != []) = false → (d == []) = true → G) → ((d != []) = true → (d == []) = false → G) → G:=fun p q => by
  by_cases e : d = []
  ·exact p (by simp [e]) (by simp [e])
  ·exact q (by simp [e]) (by simp [e])
 have rest : True:=ti
 refine key (fun d1 d2 => ?_) (fun d1 d2 => ?_)
 all_goals rw [d2] at hZ
 ·refine run0 d1 ?_
  refine use (ct _) ?_
  cases T
  ·rw [if_pos (by simp)] at hZ
   subst hZ
   refine run0 ti ?_
   exact ⟨_,le_refl _,rfl⟩
  rw [if_neg (by simp)] at hZ
  refine run0 ti ?_
  refine use (cv _) ?_
  by_cases hz : C = 0
  rotate_left
  ·have e1 : (C != 0) = true:=by simp [hz]
   rw [if_pos hz] at hZ
   refine run0 e1 ?_
   exact ⟨_,le_refl _,by rw [← hZ]; rfl⟩
  have e1 : (C != 0) = false:=by simp [hz]
  rw [if_neg (by simp [hz])] at hZ
  by_cases hk5 : k = 5
  rotate_left
  ·have e2 : (k != 5) = true:=by simp [hk5]
   rw [if_pos hk5] at hZ
   refine run0 (ai e1 e2) ?_
   exact ⟨_,le_refl _,by rw [← hZ]; rfl⟩
  have e2 : (k != 5) = false:=by simp [hk5]
  rw [if_neg (by simp [hk5])] at hZ
  refine run0 (ai e1 e2) ?_
  refine use (cn _) ?_
  cases N
  ·rw [if_pos (by simp)] at hZ
   refine run0 ti ?_
   exact ⟨_,le_refl _,by rw [← hZ]; rfl⟩
  rw [if_neg (by simp)] at hZ
  by_cases v0 : v < 1
  ·rw [if_pos (.inl v0)] at hZ
   refine run0 v0 ?_
   exact ⟨_,le_refl _,by rw [← hZ]; rfl⟩
  by_cases v1 : v > 9007199254740992
  ·rw [if_pos (.inr v1)] at hZ
   refine run0 (ai v0 v1) ?_
   exact ⟨_,le_refl _,by rw [← hZ]; rfl⟩
  rw [if_neg (by omega)] at hZ
  refine run0 (ai v0 v1) ?_
  refine use (cs _) ?_
  cases S
  ·rw [if_pos (by simp)] at hZ
   refine run0 ti ?_
   exact ⟨_,le_refl _,by rw [← hZ]; rfl⟩
  ·rw [if_neg (by simp)] at hZ
   refine run0 ti ?_
   exact ⟨_,le_refl _,by rw [← hZ]; rfl⟩
 ·refine run0 d1 ?_
  refine use (ck _) ?_
  cases K
  ·rw [if_pos (by simp)] at hZ
   subst hZ
   refine run0 ti ?_
   exact ⟨_,le_refl _,rfl⟩
  refine run0 ti ?_
  refine use (ct _) ?_
  cases T
  ·rw [if_pos (by simp)] at hZ
   subst hZ
   refine run0 ti ?_
   exact ⟨_,le_refl _,rfl⟩
  rw [if_neg (by simp)] at hZ
  refine run0 ti ?_
  refine use (cv _) ?_
  by_cases hz : C = 0
  rotate_left
  ·have e1 : (C != 0) = true:=by simp [hz]
   rw [if_pos hz] at hZ
   refine run0 e1 ?_
   exact ⟨_,le_refl _,by rw [← hZ]; rfl⟩
  have e1 : (C != 0) = false:=by simp [hz]
  rw [if_neg (by simp [hz])] at hZ
  by_cases hk5 : k = 5
  rotate_left
  ·have e2 : (k != 5) = true:=by simp [hk5]
   rw [if_pos hk5] at hZ
   refine run0 (ai e1 e2) ?_
   exact ⟨_,le_refl _,by rw [← hZ]; rfl⟩
  have e2 : (k != 5) = false:=by simp [hk5]
  rw [if_neg (by simp [hk5])] at hZ
  refine run0 (ai e1 e2) ?_
  refine use (cn _) ?_
  cases N
  ·rw [if_pos (by simp)] at hZ
   refine run0 ti ?_
   exact ⟨_,le_refl _,by rw [← hZ]; rfl⟩
  rw [if_neg (by simp)] at hZ
  by_cases v0 : v < 1
  ·rw [if_pos (.inl v0)] at hZ
   refine run0 v0 ?_
   exact ⟨_,le_refl _,by rw [← hZ]; rfl⟩
  by_cases v1 : v > 9007199254740992
  ·rw [if_pos (.inr v1)] at hZ
   refine run0 (ai v0 v1) ?_
   exact ⟨_,le_refl _,by rw [← hZ]; rfl⟩
  rw [if_neg (by omega)] at hZ
  refine run0 (ai v0 v1) ?_
  refine use (cs _) ?_
  cases S
  ·rw [if_pos (by simp)] at hZ
   refine run0 ti ?_
   exact ⟨_,le_refl _,by rw [← hZ]; rfl⟩
  ·rw [if_neg (by simp)] at hZ
   refine run0 ti ?_
   exact ⟨_,le_refl _,by rw [← hZ]; rfl⟩
end AX
end Go.Proofs.YteklhoajalgehaaGreatDoor
