/- Part of what the proof needs. -/
import Derived.Test.YtdgcbckcameggaaGreatDoorMFrStatefileReadsK
set_option maxHeartbeats 4000000
set_option linter.unusedSimpArgs false
set_option linter.unusedVariables false
set_option linter.unnecessarySimpa false
namespace Go.Proofs.YtdgcbckcameggaaGreatDoor
open Go.RowKit
theorem esc_take (s:ByteArray) (k:Nat) (h:k < s.size):(s.data.toList.take (k+1)).flatMap Str.esc=(s.data.toList.take k).flatMap Str.esc++Str.esc s[k]:=by
 rw [take_succ s k h,List.flatMap_append]; simp
theorem quote_any (s:ByteArray) (w:World) (hs:s.size≤2000000) (g:Glob w) :
  Calls Tryz.prog 128 #[.string s] w fun e w'=>e = .returned (.string ⟨(Str.quote s.data.toList).toArray⟩)∧Below w.heap.size w w':=by
 have G:=kept g
 clear g
 have Hb0:=kept (Bld.fresh w)
 have B0:=kept (ball w (.cells #[.pointer none,.slice none 0 0] 74))
 go_enter Tryz.func128,Tryz.ntmps128
 go_wp2_with fail
 refine (Hb0.out.byte (by simp) 34).mono ?_; rintro e w2 ⟨rfl,hb2,b2⟩
 have B2:=kept (Below.trans B0.out b2); have Hb2:=kept hb2
 clear B0 Hb0 b2 hb2
 go_wp2
 go_loopw [9] (fun iv wr=>Below w.heap.size w wr∧∃ k:Nat,k≤s.size∧iv = .int .i64 k∧Bld w (34::(s.data.toList.take k).flatMap Str.esc) wr) (fun iv _=>s.size - (intOf iv).toNat)
 case atStart=>exact ⟨B2.out,0,by omega,rfl,Hb2.out⟩
 case round =>
  clear B2 Hb2
  obtain ⟨hbel,k,hk,rfl,hb⟩:=hrel
  have Hl:=kept hbel; have Hb:=kept hb
  have Hlen:=kept (show (34::(s.data.toList.take k).flatMap Str.esc).length≤900000000 by
   have h1:=(Str.flatMap_esc_length (s.data.toList.take k)).2
   have h2:(s.data.toList.take k).length≤k:=by simp; omega
   rw [List.length_cons]; omega)
  clear hbel hb
  by_cases hlt:k < s.size
  ·have hlt':(k:Int) < s.size:=by omega
   have Het:=kept (esc_take s k hlt)
   by_cases h10:s[k]=10
   ·have He:=kept (show Str.esc s[k]=[92,110] by rw [h10]; rfl)
    have hu:(s[k].toNat:Int)=10:=by rw [h10]; rfl
    clear h10
    go_wp2_with fail
    refine (Hb.out.str (Nat.le_trans Hlen.out (by decide)) _ (by decide)).mono ?_; rintro e w2 ⟨rfl,hb2,b2⟩
    have B2:=kept (Below.trans Hl.out b2); have Hb2:=kept hb2; clear b2 hb2
    go_wp2
    go_roundw
    case rel=>exact ⟨B2.out,k+1,by omega,by go_num,by rw [Het.out,←List.cons_append,He.out]; exact Hb2.out⟩
    case measure=>simp [intOf]; omega
   have g10:((s[k].toNat:Int) == 10)=false:=byte_ne s[k] 10 (by decide) h10
   by_cases h13:s[k]=13
   ·have He:=kept (show Str.esc s[k]=[92,114] by rw [h13]; rfl)
    have hu:(s[k].toNat:Int)=13:=by rw [h13]; rfl
    clear h10 h13
    go_wp2_with fail
    refine (Hb.out.str (Nat.le_trans Hlen.out (by decide)) _ (by decide)).mono ?_; rintro e w2 ⟨rfl,hb2,b2⟩
    have B2:=kept (Below.trans Hl.out b2); have Hb2:=kept hb2; clear b2 hb2
    go_wp2
    go_roundw
    case rel=>exact ⟨B2.out,k+1,by omega,by go_num,by rw [Het.out,←List.cons_append,He.out]; exact Hb2.out⟩
    case measure=>simp [intOf]; omega
   have g13:((s[k].toNat:Int) == 13)=false:=byte_ne s[k] 13 (by decide) h13
   by_cases h9:s[k]=9
   ·have He:=kept (show Str.esc s[k]=[92,116] by rw [h9]; rfl)
    have hu:(s[k].toNat:Int)=9:=by rw [h9]; rfl
    clear h10 h13 h9
    go_wp2_with fail
    refine (Hb.out.str (Nat.le_trans Hlen.out (by decide)) _ (by decide)).mono ?_; rintro e w2 ⟨rfl,hb2,b2⟩
    have B2:=kept (Below.trans Hl.out b2); have Hb2:=kept hb2; clear b2 hb2
    go_wp2
    go_roundw
    case rel=>exact ⟨B2.out,k+1,by omega,by go_num,by rw [Het.out,←List.cons_append,He.out]; exact Hb2.out⟩
    case measure=>simp [intOf]; omega
   have g9:((s[k].toNat:Int) == 9)=false:=byte_ne s[k] 9 (by decide) h9
   by_cases h34:s[k]=34
   ·have He:=kept (show Str.esc s[k]=[92]++[34] by rw [h34]; rfl)
    have hu:(s[k].toNat:Int)=34:=by rw [h34]; rfl
    clear h10 h13 h9 h34
    go_wp2_with fail
    refine (Hb.out.byte (Nat.le_trans Hlen.out (by decide)) 92).mono ?_; rintro e w2 ⟨rfl,hb2,b2⟩
    have B2:=kept (Below.trans Hl.out b2); have Hb2:=kept hb2; clear b2 hb2
    have Hlen2:=kept (show ((34::(s.data.toList.take k).flatMap Str.esc)++[92]).length≤1000000000 by have:=Hlen.out; rw [List.length_append,List.length_singleton]; omega)
    go_wp2_with fail
    refine (Hb2.out.byte Hlen2.out 34).mono ?_; rintro e w3 ⟨rfl,hb3,b3⟩
    have B3:=kept (Below.trans B2.out b3); have Hb3:=kept hb3; clear b3 hb3
    go_wp2
    go_roundw
    case rel=>exact ⟨B3.out,k+1,by omega,by go_num,by rw [Het.out,←List.cons_append,He.out,←List.append_assoc]; exact Hb3.out⟩
    case measure=>simp [intOf]; omega
   have g34:((s[k].toNat:Int) == 34)=false:=byte_ne s[k] 34 (by decide) h34
   by_cases h92:s[k]=92
   ·have He:=kept (show Str.esc s[k]=[92]++[92] by rw [h92]; rfl)
    have hu:(s[k].toNat:Int)=92:=by rw [h92]; rfl
    clear h10 h13 h9 h34 h92
    go_wp2_with fail
    refine (Hb.out.byte (Nat.le_trans Hlen.out (by decide)) 92).mono ?_; rintro e w2 ⟨rfl,hb2,b2⟩
    have B2:=kept (Below.trans Hl.out b2); have Hb2:=kept hb2; clear b2 hb2
    have Hlen2:=kept (show ((34::(s.data.toList.take k).flatMap Str.esc)++[92]).length≤1000000000 by have:=Hlen.out; rw [List.length_append,List.length_singleton]; omega)
    go_wp2_with fail
    refine (Hb2.out.byte Hlen2.out 92).mono ?_; rintro e w3 ⟨rfl,hb3,b3⟩
    have B3:=kept (Below.trans B2.out b3); have Hb3:=kept hb3; clear b3 hb3
    go_wp2
    go_roundw
    case rel=>exact ⟨B3.out,k+1,by omega,by go_num,by rw [Het.out,←List.cons_append,He.out,←List.append_assoc]; exact Hb3.out⟩
    case measure=>simp [intOf]; omega
   have g92:((s[k].toNat:Int) == 92)=false:=byte_ne s[k] 92 (by decide) h92
   have hor:((s[k].toNat:Int) == 34||(s[k].toNat:Int) == 92)=false:=by rw [g34,g92]; rfl
   have hb256:=s[k].toNat_lt
   by_cases hctl:s[k] < 32∨s[k]=127
   ·have He:=kept (show Str.esc s[k]=92::117::123::(Str.hexL s[k].toNat++[125]) by unfold Str.esc; rw [if_neg h10,if_neg h13,if_neg h9,if_neg h34,if_neg h92,if_pos hctl]; rfl)
    have Hf:=kept (fun W gW=>format_any s[k].toNat W gW hb256)
    have hx:=(Str.hexL_length s[k].toNat).2
    have hcat1:=fun W=>run_cat3 (P:=Tryz.prog) W (a:=⟨#[92,117,123]⟩) (b:=⟨(Str.hexL s[k].toNat).toArray⟩) (l:=[92,117,123]) (m:=Str.hexL s[k].toNat) (r:=92::117::123::Str.hexL s[k].toNat) rfl rfl rfl (by simp; omega)
    have hcat2:=fun W=>run_cat3 (P:=Tryz.prog) W (a:=⟨(92::117::123::Str.hexL s[k].toNat).toArray⟩) (b:=⟨#[125]⟩) (l:=92::117::123::Str.hexL s[k].toNat) (m:=[125]) (r:=92::117::123::(Str.hexL s[k].toNat++[125])) rfl rfl rfl (by simp; omega)
    have Hsz:Kept ((⟨(92::117::123::(Str.hexL s[k].toNat++[125])).toArray⟩:ByteArray).size≤1000000000):=kept (by rw [size_mk]; simp; omega)
    have hcnd:((s[k].toNat:Int) < 32)∨(¬ (s[k].toNat:Int) < 32∧(s[k].toNat:Int)=127):=by
     rcases hctl with h | h
     ·rw [UInt8.lt_iff_toNat_lt] at h; have h':s[k].toNat < 32:=h; exact .inl (by omega)
     ·right; rw [h]; exact ⟨by decide,rfl⟩
    clear hctl hx h10 h13 h9 h34 h92
    rcases hcnd with h32 | ⟨h32,h127⟩
    ·have hz:=h32
     clear hz
     go_wp2_with fail
     refine (Hf.out _ (G.out.below Hl.out)).mono ?_; rintro e w2 ⟨rfl,b2⟩
     have B2:=kept (bthen Hl.out b2); have Hb2:=kept (Hb.out.below b2); clear b2
     go_wp2_with fail
     refine (Hb2.out.str (Nat.le_trans Hlen.out (by decide)) _ Hsz.out).mono ?_; rintro e w3 ⟨rfl,hb3,b3⟩
     have B3:=kept (Below.trans B2.out b3); have Hb3:=kept hb3; clear b3 hb3
     go_wp2
     go_roundw
     case rel=>exact ⟨B3.out,k+1,by omega,by go_num,by rw [Het.out,←List.cons_append,He.out]; exact Hb3.out⟩
     case measure=>simp [intOf]; omega
    ·have hn:s[k].toNat=127:=by omega
     rw [hn] at Hf hcat1 hcat2 Hsz He
     clear hor hn g10 g13 g9 g34 g92
     go_wp2_with fail
     refine (Hf.out _ (G.out.below Hl.out)).mono ?_; rintro e w2 ⟨rfl,b2⟩
     have B2:=kept (bthen Hl.out b2); have Hb2:=kept (Hb.out.below b2); clear b2
     go_wp2_with fail
     refine (Hb2.out.str (Nat.le_trans Hlen.out (by decide)) _ Hsz.out).mono ?_; rintro e w3 ⟨rfl,hb3,b3⟩
     have B3:=kept (Below.trans B2.out b3); have Hb3:=kept hb3; clear b3 hb3
     go_wp2
     go_roundw
     case rel=>exact ⟨B3.out,k+1,by omega,by go_num,by rw [Het.out,←List.cons_append,He.out]; exact Hb3.out⟩
     case measure=>simp [intOf]; omega
   ·have He:=kept (show Str.esc s[k]=[s[k]] by unfold Str.esc; rw [if_neg h10,if_neg h13,if_neg h9,if_neg h34,if_neg h92,if_neg hctl])
    have g127:((s[k].toNat:Int) == 127)=false:=byte_ne s[k] 127 (by decide) (fun h=>hctl (.inr h))
    have g32:¬ (s[k].toNat:Int) < 32:=by
     intro h; apply hctl; left; rw [UInt8.lt_iff_toNat_lt]; show s[k].toNat < 32; omega
    have Hbb:=kept (Hb.out.byte (Nat.le_trans Hlen.out (by decide)) s[k])
    clear hctl h10 h13 h9 h34 h92
    go_wp2_with fail
    refine Hbb.out.mono ?_; rintro e w2 ⟨rfl,hb2,b2⟩
    have B2:=kept (Below.trans Hl.out b2); have Hb2:=kept hb2; clear b2 hb2
    go_wp2
    go_roundw
    case rel=>exact ⟨B2.out,k+1,by omega,by go_num,by rw [Het.out,←List.cons_append,He.out]; exact Hb2.out⟩
    case measure=>simp [intOf]; omega
  ·obtain rfl:k=s.size:=by omega
   rw [List.take_of_length_le (by simp)] at Hb Hlen
   go_wp2_with fail
   refine (Hb.out.byte (Nat.le_trans Hlen.out (by decide)) 34).mono ?_; rintro e w2 ⟨rfl,hb2,b2⟩
   have B2:=kept (Below.trans Hl.out b2); have Hb2:=kept hb2; clear b2 hb2
   go_wp2_with fail
   refine (Hb2.out.string).mono ?_; rintro e w3 ⟨rfl,b3⟩
   have B3:=kept (Below.trans B2.out b3); clear b3
   go_wp2
   go_ret
   exact ⟨rfl,B3.out⟩
end Go.Proofs.YtdgcbckcameggaaGreatDoor
