/- Part of what the proof needs. -/
import Derived.Test.YtdgcbckcameggacGreatDoorMFrJournalReads0
import Derived.Test.YtdgcbckcameggacGreatDoorMFrJournalReadsA
import Init.Data.Nat.Bitwise.Lemmas
import Derived.Test.YtdgcbckcameggacGreatDoorRows
import Derived.Deep.RegionWith
set_option maxHeartbeats 4000000
set_option maxRecDepth 100000
set_option linter.all false
namespace Go.Proofs.YtdgcbckcameggacGreatDoor.Crc
def turn1(x:Nat):Nat:=if x%2=1 then x/2^^^3988292384 else x/2
def turns:Nat→Nat→Nat
 |0,x=>x
 |k+1,x=>turn1 (turns k x)
def byte(x:Nat)(b:UInt8):Nat:=turns 8 (x^^^b.toNat)
def reg(x:Nat)(l:List UInt8):Nat:=l.foldl byte x
def upd(x:Nat)(l:List UInt8):Nat:=reg (x^^^4294967295) l^^^4294967295
def four(n:Nat):List UInt8:=[UInt8.ofNat n,UInt8.ofNat (n/256),UInt8.ofNat (n/65536),UInt8.ofNat (n/16777216)]
def app(l:List UInt8):List UInt8:=l++four (upd 0 l)
def ver(l:List UInt8):List UInt8×Int:=
 if l.length<4 then([],40)else if l.drop (l.length-4)=four (upd 0 (l.take (l.length-4)))then(l.take (l.length-4),0)else([],20)
theorem turn1_lt{x:Nat}(h:x<4294967296):turn1 x<4294967296:=by
 unfold turn1;split
 ·exact Zaa (n:=32) (by omega) (by omega)
 ·omega
theorem turns_lt{x:Nat}(k:Nat)(h:x<4294967296):turns k x<4294967296:=by
 induction k with
 |zero=>exact h
 |succ k ih=>exact turn1_lt ih
theorem byte_lt{x:Nat}(b:UInt8)(h:x<4294967296):byte x b<4294967296:=
 turns_lt 8 (Zaa (n:=32) (by omega) (by have:=b.toNat_lt;omega))
theorem reg_lt{x:Nat}(l:List UInt8)(h:x<4294967296):reg x l<4294967296:=by
 induction l generalizing x with
 |nil=>exact h
 |cons b l ih=>exact ih (byte_lt b h)
theorem upd_lt{x:Nat}(l:List UInt8)(h:x<4294967296):upd x l<4294967296:=
 Zaa (n:=32) (reg_lt l (Zaa (n:=32) (by omega) (by omega))) (by omega)
theorem reg_append(x:Nat)(l m:List UInt8):reg x (l++m)=reg (reg x l) m:=by simp[reg,List.foldl_append]
def le:List UInt8→Nat
 |[]=>0
 |b::l=>b.toNat+256*le l
theorem le_lt(l:List UInt8):le l<2^(8*l.length):=by
 induction l with
 |nil=>simp[le]
 |cons b l ih=>
  have:=b.toNat_lt;rw[Zh,Nat.mul_add,Nat.pow_add,le];omega
theorem four_length(n:Nat):(four n).length=4:=rfl
end Go.Proofs.YtdgcbckcameggacGreatDoor.Crc

namespace Go.Proofs.YtdgcbckcameggacGreatDoor
open Go.RowKit
theorem bqy{x:Nat}(h:((x:Int)%2==1)=true)(hx:x<4294967296):Value.int .u32 (bits .xor .u32 ((x:Int)/2) 3988292384)=.int .u32 (Crc.turn1 x:Nat):=by
 have h1:x%2=1:=by have:=ZA.1 h;omega
 have e:((x:Int)/2)=((x/2:Nat):Int):=by omega
 rw[e,show(3988292384:Int)=((3988292384:Nat):Int)from rfl,u32_xor_nat _ _ (by omega) (by omega),Crc.turn1,if_pos h1]
theorem ayp{x:Nat}(h:((x:Int)%2==1)=false):Value.int .u32 ((x:Int)/2)=.int .u32 (Crc.turn1 x:Nat):=by
 have h1:¬x%2=1:=by have:=Zq.1 h;omega
 rw[Crc.turn1,if_neg h1];congr 1
theorem bvi{x:Nat}(hx:x<4294967296):bits .and .u32 (x:Int) 1=(x:Int)%2:=by
 rw[show(1:Int)=((1:Nat):Int)from rfl,u32_and_nat _ _ hx (by omega),Nat.and_one_is_mod];omega
theorem cvq(c:Nat)(b:UInt8)(w:World)(h:c<4294967296):
  Calls Tryz.prog 155 #[.int .u32 c,.int .u8 b.toNat] w fun e w'=>e=.returned (.int .u32 (Crc.byte c b:Nat))∧w=w':=by
 have hb:=b.toNat_lt;have hx:bits .xor .u32 (c:Int) (b.toNat:Int)=((c^^^b.toNat:Nat):Int):=u32_xor_nat _ _ h (by omega);have hl:c^^^b.toNat<4294967296:=Zaa (n:=32) (by omega) (by omega);have hb2:((b.toNat:Int))<256:=by omega
 generalize hy:c^^^b.toNat=y at hx hl;have Hy:=kept hy;clear hy h hb;go_enter Tryz.func155,Tryz.ntmps155;go_wp2;clear hx hb2
 go_loop [0,5] (fun n i=>∃k:Nat,k≤8∧i=.int .i64 k∧n=.int .u32 (Crc.turns k y:Nat)) (fun _ i=>8-(intOf i).toNat)
 case atStart=>exact⟨0,by omega,rfl,rfl⟩
 case round=>
  obtain⟨k,hk,rfl,rfl⟩:=hrel;have hs:((Crc.turns k y:Nat):Int)<4294967296:=by have:=Crc.turns_lt k hl;omega
  have hs0:0≤((Crc.turns k y:Nat):Int):=by omega
  clear hl;generalize hz:((Crc.turns k y:Nat):Int)=z at hs hs0;have Hz:=kept hz;clear hz;by_cases hlt:k<8
  ·go_wp2;all_goals
    go_round
    case rel=>exact⟨k+1,by omega,by go_num,by rw[Crc.turns];have hz:=Hz.out;subst hz;first|exact bqy ‹_› (by omega)|exact ayp ‹_›⟩
    case measure=>simp[intOf];omega
  ·obtain rfl:k=8:=by omega
   go_wp2
   go_ret
   exact⟨aqk (by rw[Crc.byte,Hy.out,Hz.out]),rfl⟩
theorem bwn(c:Int)(s:ByteArray)(w:World)(h0:0≤c)(h:c<4294967296)(hs:s.size≤1000000000):
  Calls Tryz.prog 118 #[.int .u32 c,.string s] w fun e w'=>e=.returned (.int .u32 (Crc.upd c.toNat s.data.toList:Nat))∧w=w':=by
 have hx:bits .xor .u32 c 4294967295=((c.toNat^^^4294967295:Nat):Int):=u32_xor c 4294967295 h0 h (by omega) (by omega);have hl:c.toNat^^^4294967295<4294967296:=Zaa (n:=32) (by omega) (by omega);clear h;generalize hy:c.toNat^^^4294967295=y at hx hl;have Hy:=kept hy;clear hy;have Hl:=kept hl;clear hl;go_enter Tryz.func118,Tryz.ntmps118;go_wp2;clear hx
 go_loop [5,6] (fun n i=>∃k:Nat,k≤s.size∧i=.int .i64 k∧n=.int .u32 (Crc.reg y (s.data.toList.take k):Nat)) (fun _ i=>s.size-(intOf i).toNat)
 case atStart=>exact⟨0,by omega,rfl,rfl⟩
 case round=>
  obtain⟨k,hk,rfl,rfl⟩:=hrel;by_cases hlt:k<s.size
  ·have hb:s.data.toList.take (k+1)=s.data.toList.take k++[s[k]]:=by
    rw[ZV (by simpa using hlt)];rfl
   have Hr:=kept (show Crc.reg y (s.data.toList.take (k+1))=Crc.byte (Crc.reg y (s.data.toList.take k)) s[k] by rw[hb,Crc.reg_append];rfl);have Hz:=kept (Crc.reg_lt (s.data.toList.take k) Hl.out);clear hb;go_wp2_with (go_at_call 155;refine(cvq _ _ _ Hz.out).mono ?_;rintro e w' ⟨rfl,rfl⟩)
   go_round
   case rel=>exact⟨k+1,by omega,by go_num,by rw[Hr.out]⟩
   case measure=>simp[intOf];omega
  ·have Hr:=kept (show Crc.reg y (s.data.toList.take k)=Crc.reg y s.data.toList by rw[ZD (by simp;omega)]);have Hz:=kept (Crc.reg_lt (s.data.toList.take k) Hl.out);generalize hz:Crc.reg y (s.data.toList.take k)=z at *;have Hz':=kept hz;clear hz;go_wp2
   go_ret
   exact⟨aqk (by rw[show(4294967295:Int)=((4294967295:Nat):Int)from rfl,u32_xor_nat _ _ Hz.out (by omega),Crc.upd,Hy.out,Hr.out]),rfl⟩
theorem dzr(x:Int)(b:UInt8)(h0:0≤x)(h:x<4294967296):bits .xor .u32 x ((b.toNat:Int)%4294967296)=((x.toNat^^^b.toNat:Nat):Int):=by
 have hb:=b.toNat_lt;rw[show(b.toNat:Int)%4294967296=(b.toNat:Int) by omega,u32_xor _ _ h0 h (by omega) (by omega)];rfl
theorem ckt(c:Int)(s:ByteArray)(w:World)(h0:0≤c)(h:c<4294967296)(hs:s.size≤1000000000):
  Calls Tryz.prog 97 #[.int .u32 c,.string s] w fun e w'=>e=.returned (.int .u32 (Crc.upd c.toNat s.data.toList:Nat))∧w=w':=by
 have hx:bits .xor .u32 IntKind.u32.max c=((c.toNat^^^4294967295:Nat):Int):=by
  rw[show IntKind.u32.max=4294967295 from rfl,u32_xor _ c (by omega) (by omega) h0 h,Nat.xor_comm];rfl
 have hl:c.toNat^^^4294967295<4294967296:=Zaa (n:=32) (by omega) (by omega);clear h;generalize hy:c.toNat^^^4294967295=y at hx hl;have Hy:=kept hy;clear hy;have Hl:=kept hl;clear hl;go_enter Tryz.func97,Tryz.ntmps97;go_wp2;clear hx
 go_loop [5,12] (fun n i=>∃k:Nat,k≤s.size∧i=.int .i64 k∧n=.int .u32 (Crc.reg y (s.data.toList.take k):Nat)) (fun _ i=>s.size-(intOf i).toNat)
 case atStart=>exact⟨0,by omega,rfl,rfl⟩
 case round=>
  obtain⟨k,hk,rfl,rfl⟩:=hrel;by_cases hlt:k<s.size
  ·have hb:s.data.toList.take (k+1)=s.data.toList.take k++[s[k]]:=by
    rw[ZV (by simpa using hlt)];rfl
   have Hr:=kept (show Crc.reg y (s.data.toList.take (k+1))=Crc.byte (Crc.reg y (s.data.toList.take k)) s[k] by rw[hb,Crc.reg_append];rfl);have hz:=Crc.reg_lt (s.data.toList.take k) Hl.out;have hx:=dzr (Crc.reg y (s.data.toList.take k):Nat) s[k] (by omega) (by omega);rw[Yb]at hx;have hq:Crc.reg y (s.data.toList.take k)^^^s[k].toNat<4294967296:=Zaa (n:=32) (by omega) (by have:=s[k].toNat_lt;omega);clear hb hz;generalize hy2:Crc.reg y (s.data.toList.take k)^^^s[k].toNat=q at hx hq;have Hq:=kept hq;have Hy2:=kept hy2;clear hq hy2;go_wp2;clear hx
   go_loop [5,21] (fun n i=>∃j:Nat,j≤8∧i=.int .i64 j∧n=.int .u32 (Crc.turns j q:Nat)) (fun _ i=>8-(intOf i).toNat)
   case atStart=>exact⟨0,by omega,rfl,rfl⟩
   case round=>
    obtain⟨j,hj,rfl,rfl⟩:=hrel;have Ht:=kept (Crc.turns_lt j Hq.out);have ha:=bvi Ht.out;have hu:((Crc.turns j q:Nat):Int)<4294967296:=by have:=Ht.out;omega
    have hu0:0≤((Crc.turns j q:Nat):Int):=by omega
    generalize hv:((Crc.turns j q:Nat):Int)=v at ha hu hu0;have Hv:=kept hv;clear hv;by_cases hlj:j<8
    ·go_wp2;all_goals
      go_round
      case rel=>exact⟨j+1,by omega,by go_num,by rw[Crc.turns];have hz:=Hv.out;subst hz;first|exact bqy ‹_› Ht.out|exact ayp ‹_›⟩
      case measure=>simp[intOf];omega
    ·go_wp2
     go_round
     case rel=>exact⟨k+1,by omega,by go_num,by rw[Hr.out,Crc.byte,Hy2.out,show 8=j by omega,Hv.out]⟩
     case measure=>simp[intOf];omega
  ·have Hr:=kept (show Crc.reg y (s.data.toList.take k)=Crc.reg y s.data.toList by rw[ZD (by simp;omega)]);have Hz:=kept (Crc.reg_lt (s.data.toList.take k) Hl.out);generalize hz:Crc.reg y (s.data.toList.take k)=z at *;have Hz':=kept hz;clear hz;go_wp2
   go_ret
   exact⟨aqk (by rw[show IntKind.u32.max=((4294967295:Nat):Int)from rfl,u32_xor_nat _ _ (by omega) Hz.out,Crc.upd,Hy.out,Nat.xor_comm,Hr.out]),rfl⟩
theorem bj6(n:Int)(h0:0≤n)(h:n<4294967296):
  (bcells (Crc.four n.toNat)).toArray=#[.int .u8 (n%256),.int .u8 (n/256%256),.int .u8 (n/65536%256),.int .u8 (n/16777216)]:=by
 simp only[bcells,Crc.four,List.map,Z6];congr 2
 ·congr 1;omega
 ·congr 1
  ·congr 1;omega
  ·congr 1
   ·congr 1;omega
   ·congr 2;omega
theorem avg(n:Int)(w:World)(h0:0≤n)(h:n<4294967296):
  Calls Tryz.prog 59 #[.int .u32 n] w fun e w'=>e=.returned (.string ⟨(Crc.four n.toNat).toArray⟩)∧Below w.heap.size w w':=by
 have hc:=(BytesAt.lit w 5 (Crc.four n.toNat)).conv (P:=Tryz.prog) 71 9 4 Tryz.underlying71 Tryz.underlying5 Tryz.underlying9;rw[bj6 n h0 h,Crc.four_length]at hc;go_enter Tryz.func59,Tryz.ntmps59;go_wp2
 go_ret
 exact⟨rfl,(Below.refl _ _).alloc (Zf _) _⟩
theorem cjt:(Tryz.prog.info? 5).map (fun i=>(i.zero,i.size,i.bytes))=some (some (.int .u8 0),1,1):=by kernel_rfl
theorem byb(n k:Nat)(h:k<4):(Crc.four n).take (k+1)=(Crc.four n).take k++[UInt8.ofNat (n/256^k)]:=by
 match k,h with
 |0,_=>simp[Crc.four]
 |1,_=>simp[Crc.four]
 |2,_=>simp[Crc.four]
 |3,_=>simp[Crc.four]
theorem bz0(n:Int)(w:World)(h0:0≤n)(h:n<4294967296):
  Calls Tryz.prog 81 #[.int .u32 n] w fun e w'=>e=.returned (.string ⟨(Crc.four n.toNat).toArray⟩)∧Below w.heap.size w w':=by
 go_enter Tryz.func81,Tryz.ntmps81;go_wp2
 go_loopw [0,3,4] (fun x v i wr=>∃k:Nat,k≤4∧i=.int .i64 k∧x=.int .u32 (n/256^k)∧OwnsB wr w.heap.size 5 v ((Crc.four n.toNat).take k)∧Below w.heap.size w wr) (fun _ _ i _=>4-(intOf i).toNat)
 case atStart=>exact⟨0,by omega,rfl,by simp,OwnsB.nil _ _ _,Below.refl _ _⟩
 case round=>
  obtain⟨k,hk,rfl,rfl,hown,hbel⟩:=hrel;by_cases hlt:k<4
  ·have Hd:=kept (show n/256^k/256=n/256^(k+1) by rw[Int.pow_succ];exact Int.ediv_ediv_of_nonneg (Int.pow_nonneg (by decide)));have Ht:=kept (byb n.toNat k hlt);have hx0:0≤n/256^k:=Int.ediv_nonneg h0 (Int.pow_nonneg (by decide));have hx1:n/256^k<4294967296:=by
    have:=Int.ediv_le_self (256^k) h0;omega
   have Hb:=kept (show UInt8.ofNat (n.toNat/256^k)=UInt8.ofNat ((n/256^k)%256).toNat by
    rw[←Z9,Z6,Z6];have e:(n/256^k).toNat=n.toNat/256^k:=by
     obtain⟨m,rfl⟩:=Int.eq_ofNat_of_zero_le h0;rw[Yb,show((m:Int)/256^k)=((m/256^k:Nat):Int) by simp,Yb]
    omega)
   have hlen:((Crc.four n.toNat).take k).length≤4:=by simp[Crc.four_length];omega
   have hsz:=hbel.size;generalize hy:n/256^k=y at hx0 hx1;have Hy:=kept hy;clear hy h;go_wp2_with (at_builtin;refine wpList_append_byte rfl _ _ 71 5 rfl Tryz.underlying71 cjt w.heap.size _ _ rfl (hown.below ((Below.refl _ _).alloc (Zf _) _) (Zf _)) (hbel.alloc hsz _) ⟨wr.heap.size,0,none⟩ 1 (y%256) rfl ?_ ?_ ?_ ?_ ?_ ?_)
   ·simp
   ·omega
   ·omega
   ·omega
   ·simp;omega
   ·intro v' w' hown' hbel' _;clear hown hbel hlen hsz;go_wp2
    go_roundw
    case rel=>exact⟨k+1,by omega,by go_num,by rw[←Hd.out,Hy.out],by rw[Ht.out,Hb.out,Hy.out];exact hown',hbel'⟩
    case measure=>simp[intOf];omega
  ·obtain rfl:k=4:=by omega
   have hc:=hown.conv (P:=Tryz.prog) 71 9 Tryz.underlying71 Tryz.underlying5 Tryz.underlying9;rw[ZD (by simp[Crc.four_length])]at hc;clear hown h0 h;go_wp2
   go_ret
   exact⟨rfl,hbel⟩
theorem ajg(s:ByteArray)(n:Nat):(s.extract 0 n).data.toList=s.data.toList.take n:=by simp
theorem aji(s:ByteArray)(n:Nat):(s.extract n s.size).data.toList=s.data.toList.drop n:=by
 simp;exact ZD (by simp)
theorem bqk(l:List UInt8)(h:l.length<4):Crc.ver l=([],40):=by unfold Crc.ver;rw[if_pos h]
theorem bvn(l:List UInt8)(n:Nat)(h:l.length=n+4)(hd:l.drop n=Crc.four (Crc.upd 0 (l.take n))):Crc.ver l=(l.take n,0):=by
 unfold Crc.ver;rw[if_neg (by omega),show l.length-4=n by omega,if_pos hd]
theorem byr(l:List UInt8)(n:Nat)(h:l.length=n+4)(hd:¬l.drop n=Crc.four (Crc.upd 0 (l.take n))):Crc.ver l=([],20):=by
 unfold Crc.ver;rw[if_neg (by omega),show l.length-4=n by omega,if_neg hd]
theorem sum_any(s:ByteArray)(w:World)(hs:s.size≤1000000000):
  Calls Tryz.prog 60 #[.string s] w fun e w'=>e=.returned (.int .u32 (Crc.upd 0 s.data.toList:Nat))∧w=w':=by
 go_enter Tryz.func60,Tryz.ntmps60;go_wp2_with (go_at_call 97;refine(ckt 0 _ _ (by omega) (by omega) (by omega)).mono ?_;rintro e w' ⟨rfl,rfl⟩)
 go_ret
 exact⟨rfl,rfl⟩
theorem bw3(s:ByteArray)(w:World)(hs:s.size≤1000000000):
  Calls Tryz.prog 24 #[.string s] w fun e w'=>e=.returned (.string ⟨(Crc.app s.data.toList).toArray⟩)∧Below w.heap.size w w':=by
 have Hu:=kept (show((Crc.upd 0 s.data.toList:Nat):Int)<4294967296 by have:=Crc.upd_lt (x:=0) s.data.toList (by omega);omega);have hcat:=fun W=>axm (P:=Tryz.prog) W (a:=s) (b:=⟨(Crc.four (Crc.upd 0 s.data.toList)).toArray⟩) rfl rfl (by rw[Crc.four_length];simp;omega)
 go_enter Tryz.func24,Tryz.ntmps24;go_wp2_with (first|(go_at_call 60;refine(sum_any _ _ hs).mono ?_;rintro e w' ⟨rfl,rfl⟩)|(go_at_call 59;refine(avg _ _ (by omega) Hu.out).mono ?_;rintro e w' ⟨rfl,hb⟩))
 go_ret
 exact⟨rfl,hb⟩
theorem bwi(s:ByteArray)(w:World)(hs:s.size≤1000000000):
  Calls Tryz.prog 110 #[.string s] w fun e w'=>e=.returned (.tuple #[.string ⟨(Crc.ver s.data.toList).1.toArray⟩,.int .i64 (Crc.ver s.data.toList).2])∧Below w.heap.size w w':=by
 by_cases h4:s.size<4
 ·rw[bqk _ (by simpa using h4)];go_enter Tryz.func110,Tryz.ntmps110;go_wp2
  go_ret2
  exact⟨rfl,Below.refl _ _⟩
 ·obtain⟨n,hn⟩:∃n:Nat,s.size=n+4:=⟨s.size-4,by omega⟩;have Hu:=kept (show((Crc.upd 0 (s.data.toList.take n):Nat):Int)<4294967296 by have:=Crc.upd_lt (x:=0) (s.data.toList.take n) (by omega);omega);have hl:s.data.toList.length=n+4:=by simpa using hn
  have hx:(s.extract n (n+4)).toList=s.data.toList.drop n:=by
   rw[ByteArray.toList_eq,←hn];exact aji s n
  have Hs:=kept hs;have hb:(n:Int)≤1000000000:=by omega
  clear h4 hs;by_cases hd:s.data.toList.drop n=Crc.four (Crc.upd 0 (s.data.toList.take n))
  ·rw[bvn _ n hl hd];have heq:((s.extract n (n+4)).toList==Crc.four (Crc.upd 0 (s.data.toList.take n)))=true:=by rw[hx,hd];exact YV _
   clear hd hl hx;go_enter Tryz.func110,Tryz.ntmps110;go_wp2
   go_region_with (first|(go_at_call 60;refine(sum_any _ _ (by have:=Hs.out;simp;omega)).mono ?_;rintro e w' ⟨rfl,rfl⟩)|(go_at_call 59;refine(avg _ _ (by omega) (by simpa using Hu.out)).mono ?_;rintro e w' ⟨rfl,hb⟩))
   all_goals go_wp2
   all_goals go_ret2
   all_goals exact⟨by rw[bx6 (ajg s n)];rfl,(Below.refl _ w).drew.trans hb⟩
  ·rw[byr _ n hl hd];have heq:((s.extract n (n+4)).toList==Crc.four (Crc.upd 0 (s.data.toList.take n)))=false:=by rw[hx];exact Zq.2 hd
   clear hd hl hx;go_enter Tryz.func110,Tryz.ntmps110;go_wp2
   go_region_with (first|(go_at_call 60;refine(sum_any _ _ (by have:=Hs.out;simp;omega)).mono ?_;rintro e w' ⟨rfl,rfl⟩)|(go_at_call 59;refine(avg _ _ (by omega) (by simpa using Hu.out)).mono ?_;rintro e w' ⟨rfl,hb⟩))
   all_goals go_wp2
   all_goals go_ret2
   all_goals exact⟨rfl,(Below.refl _ w).drew.trans hb⟩
theorem ave(s:ByteArray)(w:World)(hs:s.size≤1000000000):
  Calls Tryz.prog 82 #[.string s] w fun e w'=>e=.returned (.int .u32 (Crc.upd 0 s.data.toList:Nat))∧w=w':=by
 go_enter Tryz.func82,Tryz.ntmps82;go_wp2_with (go_at_call 118;refine(bwn 0 _ _ (by omega) (by omega) (by omega)).mono ?_;rintro e w' ⟨rfl,rfl⟩)
 go_ret
 exact⟨rfl,rfl⟩
theorem bzv(s:ByteArray)(w:World)(hs:s.size≤1000000000):
  Calls Tryz.prog 88 #[.string s] w fun e w'=>e=.returned (.string ⟨(Crc.app s.data.toList).toArray⟩)∧Below w.heap.size w w':=by
 have Hu:=kept (show((Crc.upd 0 s.data.toList:Nat):Int)<4294967296 by have:=Crc.upd_lt (x:=0) s.data.toList (by omega);omega);have hcat:=fun W=>axm (P:=Tryz.prog) W (a:=s) (b:=⟨(Crc.four (Crc.upd 0 s.data.toList)).toArray⟩) rfl rfl (by rw[Crc.four_length];simp;omega)
 go_enter Tryz.func88,Tryz.ntmps88;go_wp2_with (first|(go_at_call 82;refine(ave _ _ hs).mono ?_;rintro e w' ⟨rfl,rfl⟩)|(go_at_call 81;refine(bz0 _ _ (by omega) Hu.out).mono ?_;rintro e w' ⟨rfl,hb⟩))
 go_ret
 exact⟨rfl,hb⟩
theorem bqg(s:ByteArray)(w:World)(hs:s.size≤1000000000):
  Calls Tryz.prog 40 #[.string s] w fun e w'=>e=.returned (.tuple #[.string ⟨(Crc.ver s.data.toList).1.toArray⟩,.int .i64 (Crc.ver s.data.toList).2])∧Below w.heap.size w w':=by
 by_cases h4:s.size<4
 ·rw[bqk _ (by simpa using h4)];go_enter Tryz.func40,Tryz.ntmps40;go_wp2
  go_ret2
  exact⟨rfl,Below.refl _ _⟩
 ·obtain⟨n,hn⟩:∃n:Nat,s.size=n+4:=⟨s.size-4,by omega⟩;have Hu:=kept (show((Crc.upd 0 (s.data.toList.take n):Nat):Int)<4294967296 by have:=Crc.upd_lt (x:=0) (s.data.toList.take n) (by omega);omega);have hl:s.data.toList.length=n+4:=by simpa using hn
  have hx:(s.extract n (n+4)).toList=s.data.toList.drop n:=by
   rw[ByteArray.toList_eq,←hn];exact aji s n
  have Hs:=kept hs;have hb:(n:Int)≤1000000000:=by omega
  clear h4 hs;by_cases hd:s.data.toList.drop n=Crc.four (Crc.upd 0 (s.data.toList.take n))
  ·rw[bvn _ n hl hd];have heq:((s.extract n (n+4)).toList==Crc.four (Crc.upd 0 (s.data.toList.take n)))=true:=by rw[hx,hd];exact YV _
   clear hd hl hx;go_enter Tryz.func40,Tryz.ntmps40;go_wp2
   go_region_with (first|(go_at_call 82;refine(ave _ _ (by have:=Hs.out;simp;omega)).mono ?_;rintro e w' ⟨rfl,rfl⟩)|(go_at_call 81;refine(bz0 _ _ (by omega) (by simpa using Hu.out)).mono ?_;rintro e w' ⟨rfl,hb⟩))
   all_goals go_wp2
   all_goals go_ret2
   all_goals exact⟨by rw[bx6 (ajg s n)];rfl,(Below.refl _ w).drew.trans hb⟩
  ·rw[byr _ n hl hd];have heq:((s.extract n (n+4)).toList==Crc.four (Crc.upd 0 (s.data.toList.take n)))=false:=by rw[hx];exact Zq.2 hd
   clear hd hl hx;go_enter Tryz.func40,Tryz.ntmps40;go_wp2
   go_region_with (first|(go_at_call 82;refine(ave _ _ (by have:=Hs.out;simp;omega)).mono ?_;rintro e w' ⟨rfl,rfl⟩)|(go_at_call 81;refine(bz0 _ _ (by omega) (by simpa using Hu.out)).mono ?_;rintro e w' ⟨rfl,hb⟩))
   all_goals go_wp2
   all_goals go_ret2
   all_goals exact⟨rfl,(Below.refl _ w).drew.trans hb⟩
namespace Seal
structure U64(x:Int):Prop where
 lo:0≤x
 hi:x<18446744073709551616
def xor(x y:Int):Int:=bits .xor .u64 x y
def mul(x y:Int):Int:=IntKind.u64.wrap (x*y)
def mix(x:Int):Int:=
 let a:=IntKind.u64.wrap (x+11400714819323198485)
 let b:=IntKind.u64.wrap (bits .xor .u64 a (a/1073741824)*13787848793156543929)
 let c:=IntKind.u64.wrap (bits .xor .u64 b (b/134217728)*10723151780598845931)
 bits .xor .u64 c (c/2147483648)
def fold1(h:Int)(b:UInt8):Int:=mix (bits .xor .u64 h (IntKind.u64.wrap b.toNat))
def fold(h:Int)(l:List UInt8):Int:=l.foldl fold1 h
def seed(key:List UInt8)(nonce:Int):Int:=mix (bits .xor .u64 (fold (mix key.length) key) nonce)
def tag(seed:Int)(s:List UInt8):Int:=fold (mix (bits .xor .u64 seed 18446744073709551615)) s
def word(seed:Int)(j:Nat):Int:=mix (bits .xor .u64 seed (mix (j+1)))
def key(seed:Int)(i:Nat):UInt8:=UInt8.ofNat ((word seed (i/8)).toNat/2^(8*(i%8)))
def comb(seed:Int):Nat→List UInt8→List UInt8
 |_,[]=>[]
 |i,b::l=>(b^^^key seed i)::comb seed (i+1) l
theorem comb_length(seed:Int)(i:Nat)(l:List UInt8):(comb seed i l).length=l.length:=by
 induction l generalizing i with
 |nil=>rfl
 |cons b l ih=>simp[comb,ih]
theorem comb_comb(seed:Int)(i:Nat)(l:List UInt8):comb seed i (comb seed i l)=l:=by
 induction l generalizing i with
 |nil=>rfl
 |cons b l ih=>simp[comb,ih,UInt8.xor_assoc]
def eight(x:Nat):List UInt8:=(List.range 8).map fun i=>UInt8.ofNat (x/2^(8*i))
theorem eight_length(x:Nat):(eight x).length=8:=by simp[eight]
def number(l:List UInt8):Nat:=Crc.le (l.take 8)
theorem le_eight(x:Nat)(h:x<18446744073709551616):Crc.le (eight x)=x:=by
 simp only[eight,show List.range 8=[0,1,2,3,4,5,6,7]from rfl,List.map,Crc.le,Z6,Nat.reduceMul,Nat.reducePow,Nat.div_one];omega
theorem le_inj(l m:List UInt8)(hl:l.length=m.length)(h:Crc.le l=Crc.le m):l=m:=by
 induction l generalizing m with
 |nil=>exact(Z4 (by simpa using hl.symm)).symm
 |cons b l ih=>
  cases m with
  |nil=>simp at hl
  |cons c m=>
   have hb:=b.toNat_lt;have hc:=c.toNat_lt;simp only[Crc.le]at h;have h1:b=c:=by rw[←Z9];omega
   rw[h1,ih m (by simpa using hl) (by omega)]
theorem eight_number(l:List UInt8)(h:8≤l.length):eight (number l)=l.take 8:=by
 apply le_inj
 ·rw[eight_length];simp;omega
 ·have h1:=Crc.le_lt (l.take 8);rw[ZQ,Nat.min_eq_left h]at h1;exact le_eight _ (by simpa [number]using h1)
theorem number_lt(l:List UInt8):number l<18446744073709551616:=by
 have h1:=Crc.le_lt (l.take 8);have h2:(l.take 8).length≤8:=by simp;omega
 have h3:2^(8*(l.take 8).length)≤2^(8*8):=YB (by omega) (by omega);have:(2:Nat)^(8*8)=18446744073709551616:=by decide
 unfold number;omega
def check(k:List UInt8):Int:=if k=[]then 1 else if 64<k.length then 3 else 0
def body(key:List UInt8)(nonce:Int)(plain:List UInt8):List UInt8:=
 [80,83,76,49]++eight nonce.toNat++eight (tag (seed key nonce) plain).toNat++comb (seed key nonce) 0 plain
def enc(key:List UInt8)(nonce:Int)(plain:List UInt8):List UInt8×Int:=
 if check key≠0 then([],check key)else if 1048576<plain.length then([],3)else(Crc.app (body key nonce plain),0)
def form(sealed:List UInt8):Int×Int×List UInt8×Int:=
 if(Crc.ver sealed).2≠0 then(0,0,[],(Crc.ver sealed).2)
 else if(Crc.ver sealed).1.length<20∨(Crc.ver sealed).1.take 4≠[80,83,76,49]then(0,0,[],2)
 else if 1048596<(Crc.ver sealed).1.length then(0,0,[],3)
 else(number ((Crc.ver sealed).1.drop 4),number ((Crc.ver sealed).1.drop 12),(Crc.ver sealed).1.drop 20,0)
def dec(key sealed:List UInt8):List UInt8×Int:=
 if check key≠0 then([],check key)else if(form sealed).2.2.2≠0 then([],(form sealed).2.2.2)
 else if tag (seed key (form sealed).1) (comb (seed key (form sealed).1) 0 (form sealed).2.2.1)≠(form sealed).2.1 then([],26)
 else(comb (seed key (form sealed).1) 0 (form sealed).2.2.1,0)
def nonce(sealed:List UInt8):Int×Int:=((form sealed).1,(form sealed).2.2.2)
end Seal
end Go.Proofs.YtdgcbckcameggacGreatDoor

namespace Go.Proofs.YtdgcbckcameggacGreatDoor
namespace Seal
theorem ver_app(l:List UInt8):Crc.ver (Crc.app l)=(l,0):=by
 unfold Crc.ver Crc.app;rw[if_neg (by simp[Crc.four_length]),if_pos (by simp[Crc.four_length])];simp[Crc.four_length]
theorem app_ver(l v:List UInt8)(h:Crc.ver l=(v,0)):l=Crc.app v:=by
 unfold Crc.ver at h;split at h
 ·simp at h
 ·split at h
  ·rename_i h1 h2;simp only[Zp,and_true]at h;subst h;unfold Crc.app;rw[←h2,Yq]
  ·simp at h
theorem enc_ok(k:List UInt8)(n:Int)(p:List UInt8)(hc:check k=0)(hp:p.length≤1048576):enc k n p=(Crc.app (body k n p),0):=by
 rw[enc,if_neg (by simpa using hc),if_neg (by omega)]
theorem form_zero(t:List UInt8)(n m:Int)(h:List UInt8)(hf:form t=(n,m,h,(0:Int))):
  ∃v,Crc.ver t=(v,0)∧20≤v.length∧v.length≤1048596∧v.take 4=[80,83,76,49]∧n=(number (v.drop 4):Nat)∧m=(number (v.drop 12):Nat)∧h=v.drop 20:=by
 generalize hv:Crc.ver t=r at *;obtain⟨v,k⟩:=r;rw[form,hv]at hf;split at hf
 ·rename_i hk;simp only[Zp]at hf;exact absurd hf.2.2.2 hk
 ·rename_i hk;have hk0:k=0:=by simpa using hk
  subst hk0;split at hf
  ·simp at hf
  ·rename_i hb;split at hf
   ·simp at hf
   ·rename_i hl;simp only[Zp,and_true]at hf;simp only[not_or,Nat.not_lt,ne_eq,Classical.not_not]at hb;exact⟨v,rfl,hb.1,by simpa using hl,hb.2,hf.1.symm,hf.2.1.symm,hf.2.2.symm⟩
theorem enc_dec(k t p:List UInt8)(h:dec k t=(p,0)):check k=0∧U64 (nonce t).1∧(nonce t).2=0∧p.length≤1048576∧enc k (nonce t).1 p=(t,0):=by
 unfold dec at h;split at h
 ·rename_i hk;simp only[Zp]at h;exact absurd h.2 hk
 ·rename_i hk;have hc:check k=0:=by simpa using hk
  generalize hf:form t=r at *;obtain⟨n,m,hd,e⟩:=r;split at h
  ·rename_i he;simp only[Zp]at h;exact absurd h.2 he
  ·rename_i he;have he0:e=0:=by simpa using he
   subst he0;split at h
   ·simp at h
   ·rename_i htag;simp only[ne_eq,Classical.not_not]at htag;simp only[Zp,and_true]at h;obtain⟨v,hv,h20,hmax,hmag,rfl,rfl,rfl⟩:=form_zero t n m hd hf;have hpl:p.length≤1048576:=by rw[←h,comb_length];simp;omega
    have hno:nonce t=(((number (v.drop 4):Nat):Int),(0:Int)):=by rw[nonce,hf]
    have hnl:=number_lt (v.drop 4);refine⟨hc,by rw[hno];exact⟨by simp only;omega,by simp only;omega⟩,by rw[hno],hpl,?_⟩;rw[hno,enc_ok k _ p hc hpl,app_ver t v hv];congr 2;simp only;rw[body,←h,comb_comb,htag,Yb,Yb,eight_number _ (by simp;omega),eight_number _ (by simp;omega),←hmag];have e1:v=v.take 4++((v.drop 4).take 8++((v.drop 12).take 8++v.drop 20)):=by
     rw[show v.drop 20=(v.drop 12).drop 8 by simp,Yq,show v.drop 12=(v.drop 4).drop 8 by simp,Yq,Yq]
    simp only[Zg];exact e1.symm
end Seal
end Go.Proofs.YtdgcbckcameggacGreatDoor

namespace Go.Proofs.YtdgcbckcameggacGreatDoor
open Go.RowKit
theorem ver_app(l:List UInt8):Crc.ver (Crc.app l)=(l,0):=by
 unfold Crc.ver Crc.app;rw[if_neg (by simp[Crc.four_length]),if_pos (by simp[Crc.four_length])];simp[Crc.four_length]
namespace Crc
end Crc
def dz0(l:List UInt8)(i:Nat)(x:UInt8):List UInt8:=l.set i (l.getD i 0^^^x)
def hit(l:List UInt8)(i m:Nat):List UInt8:=dz0 (dz0 (dz0 (dz0 l i (UInt8.ofNat m)) (i+1) (UInt8.ofNat (m/256))) (i+2) (UInt8.ofNat (m/65536))) (i+3) (UInt8.ofNat (m/16777216))
end Go.Proofs.YtdgcbckcameggacGreatDoor
