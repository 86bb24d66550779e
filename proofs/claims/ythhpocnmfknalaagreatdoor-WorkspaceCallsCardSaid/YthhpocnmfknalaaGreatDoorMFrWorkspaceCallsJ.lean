/- Part of what the proof needs. -/
import Derived.Test.YthhpocnmfknalaaGreatDoorMFrWorkspaceCallsG
import Init.Data.Nat.Bitwise.Lemmas
import Derived.Test.YthhpocnmfknalaaGreatDoorRows
import Derived.Deep.RegionWith
set_option maxHeartbeats 4000000
set_option maxRecDepth 100000
set_option linter.all false
namespace Go.Proofs.YthhpocnmfknalaaGreatDoor.Crc
def turn1(x:Nat):Nat:=if x%2=1 then x/2^^^3988292384 else x/2
def turns:Nat->Nat->Nat
 |0,x=>x
 |k+1,x=>turn1 (turns k x)
def byte(x:Nat)(b:UInt8):Nat:=turns 8 (x^^^b.toNat)
def reg(x:Nat)(l:List UInt8):Nat:=l.foldl byte x
def upd(x:Nat)(l:List UInt8):Nat:=reg (x^^^4294967295) l^^^4294967295
def four(n:Nat):List UInt8:=[UInt8.ofNat n,UInt8.ofNat (n/256),UInt8.ofNat (n/65536),UInt8.ofNat (n/16777216)]
def app(l:List UInt8):List UInt8:=l++four (upd 0 l)
def ver(l:List UInt8):List UInt8×Int:=
 if l.length<4 then([],40)else if l.drop (l.length-4)=four (upd 0 (l.take (l.length-4)))then(l.take (l.length-4),0)else([],20)
theorem turn1_lt{x:Nat}(h:x<4294967296):turn1 x<4294967296:=by
 unfold turn1;split
 ·exact Zaj (n:=32) (by omega) (by omega)
 ·omega
theorem turns_lt{x:Nat}(k:Nat)(h:x<4294967296):turns k x<4294967296:=by
 induction k with
 |zero=>exact h
 |succ k ih=>exact turn1_lt ih
theorem byte_lt{x:Nat}(b:UInt8)(h:x<4294967296):byte x b<4294967296:=
 turns_lt 8 (Zaj (n:=32) (by omega) (by have:=b.toNat_lt;omega))
theorem reg_lt{x:Nat}(l:List UInt8)(h:x<4294967296):reg x l<4294967296:=by
 induction l generalizing x with
 |nil=>exact h
 |cons b l ih=>exact ih (byte_lt b h)
theorem upd_lt{x:Nat}(l:List UInt8)(h:x<4294967296):upd x l<4294967296:=
 Zaj (n:=32) (reg_lt l (Zaj (n:=32) (by omega) (by omega))) (by omega)
theorem reg_append(x:Nat)(l m:List UInt8):reg x (l++m)=reg (reg x l) m:=by simp[reg,List.foldl_append]
def le:List UInt8->Nat
 |[]=>0
 |b::l=>b.toNat+256*le l
theorem le_lt(l:List UInt8):le l<2^(8*l.length):=by
 induction l with
 |nil=>simp[le]
 |cons b l ih=>
  have:=b.toNat_lt;rw[Zf,Nat.mul_add,Nat.pow_add,le];omega
theorem four_length(n:Nat):(four n).length=4:=rfl
end Go.Proofs.YthhpocnmfknalaaGreatDoor.Crc

namespace Go.Proofs.YthhpocnmfknalaaGreatDoor
open Go.RowKit
theorem cjh{x:Nat}(h:((x:Int)%2==1)=true)(hx:x<4294967296):Value.int .u32 (bits .xor .u32 ((x:Int)/2) 3988292384)=.int .u32 (Crc.turn1 x:Nat):=by
 have h1:x%2=1:=by have:=ZT.1 h;omega
 have e:((x:Int)/2)=((x/2:Nat):Int):=by omega
 rw[e,show(3988292384:Int)=((3988292384:Nat):Int)from rfl,u32_xor_nat _ _ (by omega) (by omega),Crc.turn1,if_pos h1]
theorem byn{x:Nat}(h:((x:Int)%2==1)=false):Value.int .u32 ((x:Int)/2)=.int .u32 (Crc.turn1 x:Nat):=by
 have h1:¬x%2=1:=by have:=Zs.1 h;omega
 rw[Crc.turn1,if_neg h1];congr 1
theorem bvq{x:Nat}(hx:x<4294967296):bits .and .u32 (x:Int) 1=(x:Int)%2:=by
 rw[show(1:Int)=((1:Nat):Int)from rfl,u32_and_nat _ _ hx (by omega),Nat.and_one_is_mod];omega
theorem dx4(x:Int)(b:UInt8)(h0:0<=x)(h:x<4294967296):bits .xor .u32 x ((b.toNat:Int)%4294967296)=((x.toNat^^^b.toNat:Nat):Int):=by
 have hb:=b.toNat_lt;rw[show(b.toNat:Int)%4294967296=(b.toNat:Int) by omega,u32_xor _ _ h0 h (by omega) (by omega)];rfl
theorem cyt(c:Int)(s:ByteArray)(w:World)(h0:0<=c)(h:c<4294967296)(hs:s.size<=1000000000):
  Calls Tryz.prog 150 #[.int .u32 c,.string s] w fun e w'=>e=.returned (.int .u32 (Crc.upd c.toNat s.data.toList:Nat))/\w=w':=by
 have hx:bits .xor .u32 IntKind.u32.max c=((c.toNat^^^4294967295:Nat):Int):=by
  rw[show IntKind.u32.max=4294967295 from rfl,u32_xor _ c (by omega) (by omega) h0 h,Nat.xor_comm];rfl
 have hl:c.toNat^^^4294967295<4294967296:=Zaj (n:=32) (by omega) (by omega);clear h;generalize hy:c.toNat^^^4294967295=y at hx hl;have Hy:=kept hy;clear hy;have Hl:=kept hl;clear hl;go_enter Tryz.func150,Tryz.ntmps150;go_wp2;clear hx
 go_loop [5,12] (fun n i=>∃k:Nat,k<=s.size/\i=.int .i64 k/\n=.int .u32 (Crc.reg y (s.data.toList.take k):Nat)) (fun _ i=>s.size-(intOf i).toNat)
 case atStart=>exact⟨0,by omega,rfl,rfl⟩
 case round=>
  obtain⟨k,hk,rfl,rfl⟩:=hrel;by_cases hlt:k<s.size
  ·have hb:s.data.toList.take (k+1)=s.data.toList.take k++[s[k]]:=by
    rw[Z3 (by simpa using hlt)];rfl
   have Hr:=kept (show Crc.reg y (s.data.toList.take (k+1))=Crc.byte (Crc.reg y (s.data.toList.take k)) s[k] by rw[hb,Crc.reg_append];rfl);have hz:=Crc.reg_lt (s.data.toList.take k) Hl.out;have hx:=dx4 (Crc.reg y (s.data.toList.take k):Nat) s[k] (by omega) (by omega);rw[Yu]at hx;have hq:Crc.reg y (s.data.toList.take k)^^^s[k].toNat<4294967296:=Zaj (n:=32) (by omega) (by have:=s[k].toNat_lt;omega);clear hb hz;generalize hy2:Crc.reg y (s.data.toList.take k)^^^s[k].toNat=q at hx hq;have Hq:=kept hq;have Hy2:=kept hy2;clear hq hy2;go_wp2;clear hx
   go_loop [5,21] (fun n i=>∃j:Nat,j<=8/\i=.int .i64 j/\n=.int .u32 (Crc.turns j q:Nat)) (fun _ i=>8-(intOf i).toNat)
   case atStart=>exact⟨0,by omega,rfl,rfl⟩
   case round=>
    obtain⟨j,hj,rfl,rfl⟩:=hrel;have Ht:=kept (Crc.turns_lt j Hq.out);have ha:=bvq Ht.out;have hu:((Crc.turns j q:Nat):Int)<4294967296:=by have:=Ht.out;omega
    have hu0:0<=((Crc.turns j q:Nat):Int):=by omega
    generalize hv:((Crc.turns j q:Nat):Int)=v at ha hu hu0;have Hv:=kept hv;clear hv;by_cases hlj:j<8
    ·go_wp2;all_goals
      go_round
      case rel=>exact⟨j+1,by omega,by go_num,by rw[Crc.turns];have hz:=Hv.out;subst hz;first|exact cjh ‹_› Ht.out|exact byn ‹_›⟩
      case measure=>simp[intOf];omega
    ·go_wp2
     go_round
     case rel=>exact⟨k+1,by omega,by go_num,by rw[Hr.out,Crc.byte,Hy2.out,show 8=j by omega,Hv.out]⟩
     case measure=>simp[intOf];omega
  ·have Hr:=kept (show Crc.reg y (s.data.toList.take k)=Crc.reg y s.data.toList by rw[Zy (by simp;omega)]);have Hz:=kept (Crc.reg_lt (s.data.toList.take k) Hl.out);generalize hz:Crc.reg y (s.data.toList.take k)=z at *;have Hz':=kept hz;clear hz;go_wp2
   go_ret
   exact⟨axj (by rw[show IntKind.u32.max=((4294967295:Nat):Int)from rfl,u32_xor_nat _ _ (by omega) Hz.out,Crc.upd,Hy.out,Nat.xor_comm,Hr.out]),rfl⟩
theorem bvh(n:Int)(h0:0<=n)(h:n<4294967296):
  (bcells (Crc.four n.toNat)).toArray=#[.int .u8 (n%256),.int .u8 (n/256%256),.int .u8 (n/65536%256),.int .u8 (n/16777216)]:=by
 simp only[bcells,Crc.four,List.map,Yl];congr 2
 ·congr 1;omega
 ·congr 1
  ·congr 1;omega
  ·congr 1
   ·congr 1;omega
   ·congr 2;omega
theorem avt(n:Int)(w:World)(h0:0<=n)(h:n<4294967296):
  Calls Tryz.prog 120 #[.int .u32 n] w fun e w'=>e=.returned (.string ⟨(Crc.four n.toNat).toArray⟩)/\Below w.heap.size w w':=by
 have hc:=(BytesAt.lit w 5 (Crc.four n.toNat)).conv (P:=Tryz.prog) 190 9 4 Tryz.underlying190 Tryz.underlying5 Tryz.underlying9;rw[bvh n h0 h,Crc.four_length]at hc;go_enter Tryz.func120,Tryz.ntmps120;go_wp2
 go_ret
 exact⟨rfl,(Below.refl _ _).alloc (Ze _) _⟩
theorem bwa:(Tryz.prog.info? 5).map (fun i=>(i.zero,i.size,i.bytes))=some (some (.int .u8 0),1,1):=by kernel_rfl
theorem axg(s:ByteArray)(n:Nat):(s.extract 0 n).data.toList=s.data.toList.take n:=by simp
theorem aql(s:ByteArray)(n:Nat):(s.extract n s.size).data.toList=s.data.toList.drop n:=by
 simp;exact Zy (by simp)
theorem cjy(l:List UInt8)(h:l.length<4):Crc.ver l=([],40):=by unfold Crc.ver;rw[if_pos h]
theorem ckw(l:List UInt8)(n:Nat)(h:l.length=n+4)(hd:l.drop n=Crc.four (Crc.upd 0 (l.take n))):Crc.ver l=(l.take n,0):=by
 unfold Crc.ver;rw[if_neg (by omega),show l.length-4=n by omega,if_pos hd]
theorem dz2(l:List UInt8)(n:Nat)(h:l.length=n+4)(hd:¬l.drop n=Crc.four (Crc.upd 0 (l.take n))):Crc.ver l=([],20):=by
 unfold Crc.ver;rw[if_neg (by omega),show l.length-4=n by omega,if_neg hd]
theorem sum_any(s:ByteArray)(w:World)(hs:s.size<=1000000000):
  Calls Tryz.prog 121 #[.string s] w fun e w'=>e=.returned (.int .u32 (Crc.upd 0 s.data.toList:Nat))/\w=w':=by
 go_enter Tryz.func121,Tryz.ntmps121;go_wp2_with (go_at_call 150;refine(cyt 0 _ _ (by omega) (by omega) (by omega)).mono ?_;rintro e w' ⟨rfl,rfl⟩)
 go_ret
 exact⟨rfl,rfl⟩
theorem bza(s:ByteArray)(w:World)(hs:s.size<=1000000000):
  Calls Tryz.prog 112 #[.string s] w fun e w'=>e=.returned (.string ⟨(Crc.app s.data.toList).toArray⟩)/\Below w.heap.size w w':=by
 have Hu:=kept (show((Crc.upd 0 s.data.toList:Nat):Int)<4294967296 by have:=Crc.upd_lt (x:=0) s.data.toList (by omega);omega);have hcat:=fun W=>avq (P:=Tryz.prog) W (a:=s) (b:=⟨(Crc.four (Crc.upd 0 s.data.toList)).toArray⟩) rfl rfl (by rw[Crc.four_length];simp;omega)
 go_enter Tryz.func112,Tryz.ntmps112;go_wp2_with (first|(go_at_call 121;refine(sum_any _ _ hs).mono ?_;rintro e w' ⟨rfl,rfl⟩)|(go_at_call 120;refine(avt _ _ (by omega) Hu.out).mono ?_;rintro e w' ⟨rfl,hb⟩))
 go_ret
 exact⟨rfl,hb⟩
theorem bzk(s:ByteArray)(w:World)(hs:s.size<=1000000000):
  Calls Tryz.prog 86 #[.string s] w fun e w'=>e=.returned (.tuple #[.string ⟨(Crc.ver s.data.toList).1.toArray⟩,.int .i64 (Crc.ver s.data.toList).2])/\Below w.heap.size w w':=by
 by_cases h4:s.size<4
 ·rw[cjy _ (by simpa using h4)];go_enter Tryz.func86,Tryz.ntmps86;go_wp2
  go_ret2
  exact⟨rfl,Below.refl _ _⟩
 ·obtain⟨n,hn⟩:∃n:Nat,s.size=n+4:=⟨s.size-4,by omega⟩;have Hu:=kept (show((Crc.upd 0 (s.data.toList.take n):Nat):Int)<4294967296 by have:=Crc.upd_lt (x:=0) (s.data.toList.take n) (by omega);omega);have hl:s.data.toList.length=n+4:=by simpa using hn
  have hx:(s.extract n (n+4)).toList=s.data.toList.drop n:=by
   rw[ByteArray.toList_eq,<-hn];exact aql s n
  have Hs:=kept hs;have hb:(n:Int)<=1000000000:=by omega
  clear h4 hs;by_cases hd:s.data.toList.drop n=Crc.four (Crc.upd 0 (s.data.toList.take n))
  ·rw[ckw _ n hl hd];have heq:((s.extract n (n+4)).toList==Crc.four (Crc.upd 0 (s.data.toList.take n)))=true:=by rw[hx,hd];exact Y9 _
   clear hd hl hx;go_enter Tryz.func86,Tryz.ntmps86;go_wp2
   go_region_with (first|(go_at_call 121;refine(sum_any _ _ (by have:=Hs.out;simp;omega)).mono ?_;rintro e w' ⟨rfl,rfl⟩)|(go_at_call 120;refine(avt _ _ (by omega) (by simpa using Hu.out)).mono ?_;rintro e w' ⟨rfl,hb⟩))
   all_goals go_wp2
   all_goals go_ret2
   all_goals exact⟨by rw[cya (axg s n)];rfl,(Below.refl _ w).drew.trans hb⟩
  ·rw[dz2 _ n hl hd];have heq:((s.extract n (n+4)).toList==Crc.four (Crc.upd 0 (s.data.toList.take n)))=false:=by rw[hx];exact Zs.2 hd
   clear hd hl hx;go_enter Tryz.func86,Tryz.ntmps86;go_wp2
   go_region_with (first|(go_at_call 121;refine(sum_any _ _ (by have:=Hs.out;simp;omega)).mono ?_;rintro e w' ⟨rfl,rfl⟩)|(go_at_call 120;refine(avt _ _ (by omega) (by simpa using Hu.out)).mono ?_;rintro e w' ⟨rfl,hb⟩))
   all_goals go_wp2
   all_goals go_ret2
   all_goals exact⟨rfl,(Below.refl _ w).drew.trans hb⟩
namespace Seal
structure U64(x:Int):Prop where
 lo:0<=x
 hi:x<18446744073709551616
def xor(x y:Int):Int:=bits .xor .u64 x y
theorem bits_u64(op:BinOp)(x y:Int):U64 (bits op .u64 x y):=by
 unfold bits;rw[IntKind.wrap_u64];exact⟨Int.emod_nonneg _ (by decide),Int.emod_lt_of_pos _ (by decide)⟩
def mul(x y:Int):Int:=IntKind.u64.wrap (x*y)
def mix(x:Int):Int:=
 let a:=IntKind.u64.wrap (x+11400714819323198485)
 let b:=IntKind.u64.wrap (bits .xor .u64 a (a/1073741824)*13787848793156543929)
 let c:=IntKind.u64.wrap (bits .xor .u64 b (b/134217728)*10723151780598845931)
 bits .xor .u64 c (c/2147483648)
theorem mix_u64(x:Int):U64 (mix x):=by unfold mix;exact bits_u64 _ _ _
def fold1(h:Int)(b:UInt8):Int:=mix (bits .xor .u64 h (IntKind.u64.wrap b.toNat))
def fold(h:Int)(l:List UInt8):Int:=l.foldl fold1 h
theorem fold_u64(h:Int)(l:List UInt8)(hh:U64 h):U64 (fold h l):=by
 induction l generalizing h with
 |nil=>exact hh
 |cons b l ih=>exact ih _ (mix_u64 _)
theorem fold_snoc(h:Int)(l:List UInt8)(b:UInt8):fold h (l++[b])=fold1 (fold h l) b:=by simp[fold]
def seed(key:List UInt8)(nonce:Int):Int:=mix (bits .xor .u64 (fold (mix key.length) key) nonce)
theorem seed_u64(key:List UInt8)(nonce:Int):U64 (seed key nonce):=mix_u64 _
def tag(seed:Int)(s:List UInt8):Int:=fold (mix (bits .xor .u64 seed 18446744073709551615)) s
theorem tag_u64(seed:Int)(s:List UInt8):U64 (tag seed s):=fold_u64 _ _ (mix_u64 _)
def word(seed:Int)(j:Nat):Int:=mix (bits .xor .u64 seed (mix (j+1)))
theorem word_u64(seed:Int)(j:Nat):U64 (word seed j):=mix_u64 _
def key(seed:Int)(i:Nat):UInt8:=UInt8.ofNat ((word seed (i/8)).toNat/2^(8*(i%8)))
def comb(seed:Int):Nat->List UInt8->List UInt8
 |_,[]=>[]
 |i,b::l=>(b^^^key seed i)::comb seed (i+1) l
theorem comb_length(seed:Int)(i:Nat)(l:List UInt8):(comb seed i l).length=l.length:=by
 induction l generalizing i with
 |nil=>rfl
 |cons b l ih=>simp[comb,ih]
theorem comb_comb(seed:Int)(i:Nat)(l:List UInt8):comb seed i (comb seed i l)=l:=by
 induction l generalizing i with
 |nil=>rfl
 |cons b l ih=>simp[comb,ih,UInt8.xor_assoc]
theorem comb_get(seed:Int)(i:Nat)(l:List UInt8)(k:Nat)(h:k<l.length):(comb seed i l)[k]'(by rw[comb_length];exact h)=l[k]^^^key seed (i+k):=by
 induction l generalizing i k with
 |nil=>simp at h
 |cons b l ih=>
  cases k with
  |zero=>simp[comb]
  |succ k=>simp only[comb,List.getElem_cons_succ];rw[ih (i+1) k (by simpa using h)];congr 2;omega
def eight(x:Nat):List UInt8:=(List.range 8).map fun i=>UInt8.ofNat (x/2^(8*i))
theorem eight_length(x:Nat):(eight x).length=8:=by simp[eight]
theorem eight_take(x k:Nat)(h:k<8):(eight x).take (k+1)=(eight x).take k++[UInt8.ofNat (x/2^(8*k))]:=by
 rw[Z3 (by simp[eight];omega)];simp[eight]
def number(l:List UInt8):Nat:=Crc.le (l.take 8)
theorem le_append(l m:List UInt8):Crc.le (l++m)=Crc.le l+2^(8*l.length)*Crc.le m:=by
 induction l with
 |nil=>simp[Crc.le]
 |cons b l ih=>
  rw[ZE,Crc.le,Crc.le,ih,Zf,Nat.mul_add,show 8*(l.length+1)=8*l.length+8 by omega,Nat.pow_add,Nat.add_assoc];congr 2;rw[show(2:Nat)^8=256 from rfl,Nat.mul_comm (2^(8*l.length)) 256,Nat.mul_assoc]
theorem le_eight(x:Nat)(h:x<18446744073709551616):Crc.le (eight x)=x:=by
 simp only[eight,show List.range 8=[0,1,2,3,4,5,6,7]from rfl,List.map,Crc.le,Yl,Nat.reduceMul,Nat.reducePow,Nat.div_one];omega
theorem le_inj(l m:List UInt8)(hl:l.length=m.length)(h:Crc.le l=Crc.le m):l=m:=by
 induction l generalizing m with
 |nil=>exact(ZN (by simpa using hl.symm)).symm
 |cons b l ih=>
  cases m with
  |nil=>simp at hl
  |cons c m=>
   have hb:=b.toNat_lt;have hc:=c.toNat_lt;simp only[Crc.le]at h;have h1:b=c:=by rw[<-YG];omega
   rw[h1,ih m (by simpa using hl) (by omega)]
theorem eight_number(l:List UInt8)(h:8<=l.length):eight (number l)=l.take 8:=by
 apply le_inj
 ·rw[eight_length];simp;omega
 ·have h1:=Crc.le_lt (l.take 8);rw[Zk,Nat.min_eq_left h]at h1;exact le_eight _ (by simpa [number]using h1)
theorem number_lt(l:List UInt8):number l<18446744073709551616:=by
 have h1:=Crc.le_lt (l.take 8);have h2:(l.take 8).length<=8:=by simp;omega
 have h3:2^(8*(l.take 8).length)<=2^(8*8):=YQ (by omega) (by omega);have:(2:Nat)^(8*8)=18446744073709551616:=by decide
 unfold number;omega
def check(k:List UInt8):Int:=if k=[]then 1 else if 64<k.length then 3 else 0
def body(key:List UInt8)(nonce:Int)(plain:List UInt8):List UInt8:=
 [80,83,76,49]++eight nonce.toNat++eight (tag (seed key nonce) plain).toNat++comb (seed key nonce) 0 plain
def enc(key:List UInt8)(nonce:Int)(plain:List UInt8):List UInt8×Int:=
 if check key≠0 then([],check key)else if 1048576<plain.length then([],3)else(Crc.app (body key nonce plain),0)
def form(sealed:List UInt8):Int×Int×List UInt8×Int:=
 if(Crc.ver sealed).2≠0 then(0,0,[],(Crc.ver sealed).2)
 else if(Crc.ver sealed).1.length<20\/(Crc.ver sealed).1.take 4≠[80,83,76,49]then(0,0,[],2)
 else if 1048596<(Crc.ver sealed).1.length then(0,0,[],3)
 else(number ((Crc.ver sealed).1.drop 4),number ((Crc.ver sealed).1.drop 12),(Crc.ver sealed).1.drop 20,0)
def dec(key sealed:List UInt8):List UInt8×Int:=
 if check key≠0 then([],check key)else if(form sealed).2.2.2≠0 then([],(form sealed).2.2.2)
 else if tag (seed key (form sealed).1) (comb (seed key (form sealed).1) 0 (form sealed).2.2.1)≠(form sealed).2.1 then([],26)
 else(comb (seed key (form sealed).1) 0 (form sealed).2.2.1,0)
def nonce(sealed:List UInt8):Int×Int:=((form sealed).1,(form sealed).2.2.2)
end Seal
theorem avu(x:Int)(w:World):
  Calls Tryz.prog 147 #[.int .u64 x] w fun e w'=>e=.returned (.int .u64 (Seal.mix x))/\w=w':=by
 go_enter Tryz.func147,Tryz.ntmps147;go_wp2
 go_ret
 exact⟨rfl,rfl⟩
theorem bjk(s:ByteArray)(k:Nat)(h:k<s.size):s.data.toList.take (k+1)=s.data.toList.take k++[s[k]]:=by
 rw[Z3 (by simpa using h)];rfl
theorem bwb(h:Int)(s:ByteArray)(w:World)(hs:s.size<=1000000000):
  Calls Tryz.prog 148 #[.int .u64 h,.string s] w fun e w'=>e=.returned (.int .u64 (Seal.fold h s.data.toList))/\w=w':=by
 go_enter Tryz.func148,Tryz.ntmps148;go_wp2
 go_loop [0,8] (fun x i=>∃k:Nat,k<=s.size/\i=.int .i64 k/\x=.int .u64 (Seal.fold h (s.data.toList.take k))) (fun _ i=>s.size-(intOf i).toNat)
 case atStart=>exact⟨0,by omega,rfl,rfl⟩
 case round=>
  obtain⟨k,hk,rfl,rfl⟩:=hrel;by_cases hlt:k<s.size
  ·have Hn:=kept (show Seal.fold h (s.data.toList.take (k+1))=Seal.fold1 (Seal.fold h (s.data.toList.take k)) s[k] by rw[bjk s k hlt,Seal.fold_snoc]);generalize hy:Seal.fold h (s.data.toList.take k)=y at *;have Hy:=kept hy;clear hy;go_wp2_with (go_at_call 147;refine(avu _ _).mono ?_;rintro e w' ⟨rfl,rfl⟩)
   go_round
   case rel=>exact⟨k+1,by omega,by go_num,by rw[Hn.out];rfl⟩
   case measure=>simp[intOf];omega
  ·have Hn:=kept (show Seal.fold h (s.data.toList.take k)=Seal.fold h s.data.toList by rw[Zy (by simp;omega)]);generalize hy:Seal.fold h (s.data.toList.take k)=y at *;go_wp2
   go_ret
   exact⟨axj (by rw[Hn.out]),rfl⟩
theorem bzz(s:ByteArray)(n:Int)(w:World)(hs:s.size<=1000000000):
  Calls Tryz.prog 111 #[.string s,.int .u64 n] w fun e w'=>e=.returned (.int .u64 (Seal.seed s.data.toList n))/\w=w':=by
 have Hl:=kept (show((s.data.toList.length:Nat):Int)=s.size by simp);go_enter Tryz.func111,Tryz.ntmps111;go_wp2_with fail;refine(avu _ _).mono ?_;rintro e w' ⟨rfl,rfl⟩;go_wp2_with fail;refine(bwb _ _ _ (by omega)).mono ?_;rintro e w' ⟨rfl,rfl⟩;go_wp2_with fail;refine(avu _ _).mono ?_;rintro e w' ⟨rfl,rfl⟩;go_wp2
 go_ret
 exact⟨axj (by rw[Seal.seed,Hl.out]),rfl⟩
theorem bvk(n:Int)(s:ByteArray)(w:World)(hs:s.size<=1000000000):
  Calls Tryz.prog 114 #[.int .u64 n,.string s] w fun e w'=>e=.returned (.int .u64 (Seal.tag n s.data.toList))/\w=w':=by
 go_enter Tryz.func114,Tryz.ntmps114;go_wp2_with fail;refine(avu _ _).mono ?_;rintro e w' ⟨rfl,rfl⟩;go_wp2_with fail;refine(bwb _ _ _ (by omega)).mono ?_;rintro e w' ⟨rfl,rfl⟩;go_wp2
 go_ret
 exact⟨rfl,rfl⟩
theorem bk0(x:Int)(h:0<=x)(k:Nat):((UInt8.ofNat (x.toNat/2^(8*k))).toNat:Int)=x/2^(8*k)%256:=by
 obtain⟨n,rfl⟩:=Int.eq_ofNat_of_zero_le h;rw[Yl,Yu];simp
theorem ayb(x:Int)(w:World)(hx:Seal.U64 x):
  Calls Tryz.prog 113 #[.int .u64 x] w fun e w'=>e=.returned (.string ⟨(Seal.eight x.toNat).toArray⟩)/\Below w.heap.size w w':=by
 obtain⟨W1,hmk0,hby,hbel,hsz⟩:=bzm (P:=Tryz.prog) w 8 190 5 Tryz.underlying190 bwa (by omega);have hmk:(Instr.makeSlice 190 (.int .i64 8) (.int .i64 8)).run Tryz.prog w=.ok (.slice (some ⟨w.heap.size,0,none⟩) 8 8) W1:=hmk0;have Hb:=kept hby;have Hl:=kept hbel;clear hmk0 hby hbel;go_enter Tryz.func113,Tryz.ntmps113;go_wp2;clear hmk
 go_loopw [8] (fun i wr=>∃(k:Nat) (l:List UInt8),k<=8/\i=.int .i64 k/\l.length=8/\l.take k=(Seal.eight x.toNat).take k/\BytesAt wr w.heap.size 5 l/\Below w.heap.size w wr) (fun i _=>8-(intOf i).toNat)
 case atStart=>exact⟨0,List.replicate 8 0,by omega,rfl,by simp,by simp,Hb.out,Hl.out⟩
 case round=>
  obtain⟨k,l,hk,rfl,hll,htk,hby,hbel⟩:=hrel;have Hb:=kept hby;have Hl:=kept hbel;have Hll:=kept hll;have Htk:=kept htk;clear hby hbel hll htk;by_cases hlt:k<8
  ·have hlt2:k<l.length:=by rw[Hll.out];exact hlt
   have hc:=Hb.out.cell k hlt2;have hf:=Hb.out.free k hlt2;have hset:=Hb.out.set k (UInt8.ofNat (x.toNat/2^(8*k)));rw[bk0 x hx.lo k]at hset;have Hset:=kept hset
   have Ht:=kept (show(l.set k (UInt8.ofNat (x.toNat/2^(8*k)))).take (k+1)=(Seal.eight x.toNat).take (k+1) by
    rw[Seal.eight_take _ k hlt,Z3 (by simpa using hlt2),List.take_set_of_le (by omega),Htk.out]
    simp)
   generalize l[k].toNat=q at hc;clear hset hlt2 hx;go_wp2
   go_roundw
   case rel=>exact⟨k+1,_,by omega,by go_num,by rw[ZA];exact Hll.out,Ht.out,Hset.out,Hl.out.setCell (Ze _) _⟩
   case measure=>simp[intOf];omega
  ·obtain rfl:k=8:=by omega
   have hc:=Hb.out.conv_of (P:=Tryz.prog) 190 9 8 8 Hll.out Tryz.underlying190 Tryz.underlying5 Tryz.underlying9;go_wp2
   go_ret
   exact⟨cxf (by have:=Htk.out;rwa [Zy (by rw[Hll.out];omega),Zy (by rw[Seal.eight_length];omega)]at this),Hl.out⟩
theorem cjn(b:UInt8):IntKind.u64.wrap (b.toNat:Int)=(b.toNat:Int):=by
 have hb:=b.toNat_lt;rw[IntKind.wrap_u64];omega
theorem dvg(k:Nat)(h:k<=8):2^(8*k)<=18446744073709551616:=by
 have:=YQ (n:=2) (by omega) (show 8*k<=64 by omega);simpa using this
theorem cyz(l:List UInt8)(b:UInt8)(k:Nat)(hl:l.length=k)(hk:k<8):
  bits .or .u64 (Crc.le l:Nat) (IntKind.u64.wrap (IntKind.u64.wrap b.toNat*2^(8*k)))=(Crc.le (l++[b]):Nat):=by
 have hb:=b.toNat_lt;have h1:=Crc.le_lt l;rw[hl]at h1;have h2:=Crc.le_lt (l++[b]);rw[Za,hl,Yi]at h2;have h3:=dvg (k+1) (by omega);have h4:=dvg k (by omega);have e:Crc.le (l++[b])=2^(8*k)*b.toNat+Crc.le l:=by rw[Seal.le_append,hl];simp[Crc.le];omega
 have h5:2^(8*k)*b.toNat<18446744073709551616:=by omega
 rw[cjn,IntKind.wrap_u64];have e2:((b.toNat:Int)*2^(8*k))%18446744073709551616=((2^(8*k)*b.toNat:Nat):Int):=by
  rw[show((b.toNat:Int)*2^(8*k))=((2^(8*k)*b.toNat:Nat):Int) by simp[Int.mul_comm]];omega
 rw[e2,bits_or_u64_nat _ _ (by omega) h5,e,Nat.or_comm,Nat.two_pow_add_eq_or_of_lt h1]
theorem cvy(s:ByteArray)(w:World)(h8:8<=s.size):
  Calls Tryz.prog 149 #[.string s] w fun e w'=>e=.returned (.int .u64 (Seal.number s.data.toList:Nat))/\w=w':=by
 go_enter Tryz.func149,Tryz.ntmps149;go_wp2
 go_loop [3,5] (fun x i=>∃k:Nat,k<=8/\i=.int .i64 k/\x=.int .u64 (Crc.le (s.data.toList.take k):Nat)) (fun _ i=>8-(intOf i).toNat)
 case atStart=>exact⟨0,by omega,rfl,by simp[Crc.le]⟩
 case round=>
  obtain⟨k,hk,rfl,rfl⟩:=hrel;by_cases hlt:k<8
  ·have hk2:k<s.size:=by omega
   have Hn:=kept (cyz (s.data.toList.take k) s[k] k (by simp;omega) hlt);have Ht:=kept (bjk s k hk2);generalize hy:Crc.le (s.data.toList.take k)=y at *;have Hy:=kept hy;clear hy;go_wp2
   go_round
   case rel=>exact⟨k+1,by omega,by go_num,by rw[Ht.out,<-Hn.out]⟩
   case measure=>simp[intOf];omega
  ·obtain rfl:k=8:=by omega
   go_wp2
   go_ret
   exact⟨rfl,rfl⟩
theorem bjg{w:World}{g:Nat}{e:TypeId}(n y:Int)(s:ByteArray)(l:List UInt8)(k:Nat)(hk:k<s.size)(hb:BytesAt w g e l)(hl:l.length=s.size)
  (ht:l.take k=(Seal.comb n 0 s.data.toList).take k) (hy:Seal.U64 y) (hw:y=Seal.word n (k/8)):
  ∃l2:List UInt8,l2.length=s.size/\l2.take (k+1)=(Seal.comb n 0 s.data.toList).take (k+1) /\
   BytesAt (w.setCell ⟨g,k,none⟩ (.int .u8 (bits .xor .u8 (s[k].toNat:Int) (y/2^(8*(k%8))%256)))) g e l2:=by
 have hkl:k<s.data.toList.length:=by simpa using hk
 have h1:(s[k].toNat:Int)<256:=by have:=s[k].toNat_lt;omega
 have h2:=bk0 y hy.lo (k%8);have hkey:Seal.key n k=UInt8.ofNat (y.toNat/2^(8*(k%8))):=by rw[Seal.key,hw]
 have h3:bits .xor .u8 (s[k].toNat:Int) (y/2^(8*(k%8))%256)=((s[k]^^^Seal.key n k).toNat:Int):=by
  rw[<-h2,<-hkey,u8_xor_nat _ _ s[k].toNat_lt (Seal.key n k).toNat_lt,UInt8.toNat_xor]
 refine⟨l.set k (s[k]^^^Seal.key n k),by simpa using hl,?_,by rw[h3];exact hb.set k _⟩;have hcl:k<(Seal.comb n 0 s.data.toList).length:=by rw[Seal.comb_length];exact hkl
 rw[Z3 (by simpa [hl]using hk),List.take_set_of_le (by omega),ht,Z3 hcl,Seal.comb_get n 0 _ k hkl];simp only[List.getElem_set_self,Yj];rfl
theorem dql(n:Int)(k:Nat):Seal.mix (bits .xor .u64 n (Seal.mix ((k:Int)/8+1)))=Seal.word n (k/8):=rfl
theorem bxg{y n:Int}{k:Nat}(h:y=Seal.word n (k/8)):(k+1)%8≠0->y=Seal.word n ((k+1)/8):=fun hk=>by
 rw[h];congr 1;omega
theorem ax5(n:Int)(s:ByteArray)(w:World)(hs:s.size<=1000000000):
  Calls Tryz.prog 115 #[.int .u64 n,.string s] w fun e w'=>e=.returned (.string ⟨(Seal.comb n 0 s.data.toList).toArray⟩)/\Below w.heap.size w w':=by
 obtain⟨W1,hmk,hby,hbel,hsz⟩:=bzm (P:=Tryz.prog) w s.size 190 5 Tryz.underlying190 bwa (by omega);have Hb:=kept hby;have Hl:=kept hbel;clear hby hbel;go_enter Tryz.func115,Tryz.ntmps115;go_wp2;clear hmk
 go_loopw [6,13] (fun x i wr=>∃(k:Nat) (y:Int) (l:List UInt8),k<=s.size/\i=.int .i64 k/\x=.int .u64 y/\Seal.U64 y/\(k%8≠0->y=Seal.word n (k/8))/\l.length=s.size/\l.take k=(Seal.comb n 0 s.data.toList).take k/\BytesAt wr w.heap.size 5 l/\Below w.heap.size w wr) (fun _ i _=>s.size-(intOf i).toNat)
 case atStart=>exact⟨0,0,List.replicate s.size 0,by omega,rfl,rfl,⟨by omega,by omega⟩,by omega,by simp,by simp,Hb.out,Hl.out⟩
 case round=>
  obtain⟨k,y,l,hk,rfl,rfl,hy64,hyw,hll,htk,hby,hbel⟩:=hrel;have Hb:=kept hby;have Hl:=kept hbel;have Hll:=kept hll;have Htk:=kept htk;have H64:=kept hy64;have Hyw:=kept hyw;clear hby hbel hll htk hy64 hyw;by_cases hlt:k<s.size
  ·have hlt2:k<l.length:=by rw[Hll.out];exact hlt
   have hc:=Hb.out.cell k hlt2;have hf:=Hb.out.free k hlt2;have hin:(k:Int)<s.size:=by omega
   have hsh:8*((k:Int)%8)<=64:=by omega
   generalize l[k].toNat=q at hc;clear hlt2;by_cases h8:k%8=0
   ·have h8':((k:Int)%8==0)=true:=by simp;omega
    have Hw:=kept (dql n k);obtain⟨l2,hl2,ht2,hb2⟩:=bjg n (Seal.word n (k/8)) s l k hlt Hb.out Hll.out Htk.out (Seal.word_u64 _ _) rfl;have Hn:=kept (bxg (rfl:Seal.word n (k/8)=Seal.word n (k/8)));have H6:=kept (Seal.word_u64 n (k/8));generalize hv:Seal.word n (k/8)=v at *;have Hl2:=kept hl2;have Ht2:=kept ht2;have Hb2:=kept hb2;have Hv:=kept hv;clear h8 hl2 ht2 hb2 hv;go_wp2_with fail;refine(avu _ _).mono ?_;rintro e w' ⟨rfl,rfl⟩;go_wp2_with fail;refine(avu _ _).mono ?_;rintro e w' ⟨rfl,rfl⟩;rw[Hw.out];go_wp2_with fail
    go_region
    go_wp2
    go_roundw
    case rel=>exact⟨k+1,v,l2,by omega,by go_num,rfl,H6.out,Hn.out,Hl2.out,Ht2.out,Hb2.out,(Hl.out.setCell (Ze _) _).drew⟩
    case measure=>simp[intOf];omega
   ·have h8':((k:Int)%8==0)=false:=by simp;omega
    have Hw:=kept (Hyw.out h8);obtain⟨l2,hl2,ht2,hb2⟩:=bjg n y s l k hlt Hb.out Hll.out Htk.out H64.out Hw.out;have Hl2:=kept hl2;have Ht2:=kept ht2;have Hb2:=kept hb2;clear h8 hl2 ht2 hb2;go_wp2_with fail
    go_region
    go_wp2
    go_roundw
    case rel=>exact⟨k+1,y,l2,by omega,by go_num,rfl,H64.out,bxg Hw.out,Hl2.out,Ht2.out,Hb2.out,(Hl.out.setCell (Ze _) _).drew⟩
    case measure=>simp[intOf];omega
  ·obtain rfl:k=s.size:=by omega
   have hc:=Hb.out.conv_of (P:=Tryz.prog) 190 9 s.size s.size Hll.out Tryz.underlying190 Tryz.underlying5 Tryz.underlying9
   have Ht:=kept (show l=Seal.comb n 0 s.data.toList by
    have:=Htk.out
    rwa [Zy (by rw[Hll.out];omega),Zy (by rw[Seal.comb_length];simp)]at this)
   go_wp2
   go_ret
   exact⟨cxf Ht.out,Hl.out⟩
theorem avk(s:ByteArray)(l:List UInt8)(k:Int)(w:World)(hs:s.size<=1000000000)(h:Crc.ver s.data.toList=(l,k)):
  Calls Tryz.prog 86 #[.string s] w fun e w'=>e=.returned (.tuple #[.string ⟨l.toArray⟩,.int .i64 k])/\Below w.heap.size w w':=by
 have:=bzk s w hs;rw[h]at this;exact this
theorem ver_app(l:List UInt8):Crc.ver (Crc.app l)=(l,0):=by
 unfold Crc.ver Crc.app;rw[if_neg (by simp[Crc.four_length]),if_pos (by simp[Crc.four_length])];simp[Crc.four_length]
theorem ak3{P:Program}(w:World){a b:ByteArray}{l m r:List UInt8}(ha:a.data.toList=l)(hb:b.data.toList=m)(hr:l++m=r)(h:r.length<1099511627776):
  (Op.stringOp .add a b).run P w=.ok (.string ⟨r.toArray⟩) w:=by
 subst hr;exact avq w ha hb (by rw[Za]at h;exact h)
theorem bx8(s:ByteArray):s.toList.isEmpty=true↔s.data.toList=[]:=by rw[ByteArray.toList_eq,List.isEmpty_iff]
theorem aqu(s:ByteArray):s.data.toList.length=s.size:=by simp
theorem check_any(s:ByteArray)(w:World)(hs:s.size<=1000000000):
  Calls Tryz.prog 53 #[.string s] w fun e w'=>e=.returned (.int .i64 (Seal.check s.data.toList))/\w=w':=by
 by_cases h0:s.data.toList=[]
 ·have h:=(bx8 s).2 h0;have Hc:=kept (show Seal.check s.data.toList=1 by rw[Seal.check,if_pos h0]);clear h0;go_enter Tryz.func53,Tryz.ntmps53;go_wp2
  go_ret
  exact⟨axj Hc.out.symm,rfl⟩
 ·have h:s.toList.isEmpty=false:=by
   cases he:s.toList.isEmpty with
   |false=>rfl
   |true=>exact absurd ((bx8 s).1 he) h0
  by_cases h64:64<s.size
  ·have Hc:=kept (show Seal.check s.data.toList=3 by rw[Seal.check,if_neg h0,if_pos (by rw[aqu];exact h64)]);clear h0;go_enter Tryz.func53,Tryz.ntmps53;go_wp2
   go_ret
   exact⟨axj Hc.out.symm,rfl⟩
  ·have Hc:=kept (show Seal.check s.data.toList=0 by rw[Seal.check,if_neg h0,if_neg (by rw[aqu];exact h64)]);clear h0;go_enter Tryz.func53,Tryz.ntmps53;go_wp2
   go_ret
   exact⟨axj Hc.out.symm,rfl⟩
theorem dqr(s:ByteArray)(n:Int)(p:ByteArray)(w:World)(hs:s.size<=1000000000)(hn:Seal.U64 n)(hp:p.size<=1048576):
  Calls Tryz.prog 81 #[.string s,.int .u64 n,.string p] w fun e w'=>e=.returned (.tuple #[.string ⟨(Seal.enc s.data.toList n p.data.toList).1.toArray⟩,.int .i64 (Seal.enc s.data.toList n p.data.toList).2])/\Below w.heap.size w w':=by
 by_cases hc:Seal.check s.data.toList=0
 ·have He:=kept (show Seal.enc s.data.toList n p.data.toList=(Crc.app (Seal.body s.data.toList n p.data.toList),0) by
   rw[Seal.enc,if_neg (by simpa using hc),if_neg (by rw[aqu];omega)])
  have Hc:=kept hc;generalize hx:Seal.seed s.data.toList n=x;have Hx:=kept (show Seal.U64 x by rw[<-hx];exact Seal.seed_u64 _ _);generalize hz:Seal.tag x p.data.toList=z;have Hz:=kept (show Seal.U64 z by rw[<-hz];exact Seal.tag_u64 _ _);generalize h1:([80,83,76,49]++Seal.eight n.toNat:List UInt8)=m1;generalize h2:m1++Seal.eight z.toNat=m2;generalize h3:m2++Seal.comb x 0 p.data.toList=m3;have Hm:=kept (show m3=Seal.body s.data.toList n p.data.toList by rw[Seal.body,hx,hz,h1,h2,h3]);have l1:m1.length=12:=by rw[<-h1];simp[Seal.eight_length]
  have l2:m2.length=20:=by rw[<-h2,Za,l1,Seal.eight_length]
  have l3:m3.length=20+p.size:=by rw[<-h3,Za,l2,Seal.comb_length,aqu]
  have hcat1:=fun W=>ak3 (P:=Tryz.prog) W (a:=⟨#[80,83,76,49]⟩) (b:=⟨(Seal.eight n.toNat).toArray⟩) rfl rfl h1 (by omega)
  have hcat2:=fun W=>ak3 (P:=Tryz.prog) W (a:=⟨m1.toArray⟩) (b:=⟨(Seal.eight z.toNat).toArray⟩) rfl rfl h2 (by omega)
  have hcat3:=fun W=>ak3 (P:=Tryz.prog) W (a:=⟨m2.toArray⟩) (b:=⟨(Seal.comb x 0 p.data.toList).toArray⟩) rfl rfl h3 (by omega)
  have Hl3:=kept (show(⟨m3.toArray⟩:ByteArray).size<=1000000000 by rw[size_mk];omega);have Hsx:=kept hx;have Hsz:=kept hz;clear h1 h2 h3 l1 l2 l3 hc hx hz;go_enter Tryz.func81,Tryz.ntmps81;go_wp2_with fail;refine(check_any _ _ hs).mono ?_;rintro e w1 ⟨rfl,rfl⟩;rw[Hc.out];go_wp2_with fail;refine(bzz _ _ _ hs).mono ?_;rintro e w1 ⟨rfl,rfl⟩;rw[Hsx.out];go_wp2_with fail;refine(ayb _ _ hn).mono ?_;rintro e w1 ⟨rfl,b1⟩;go_wp2_with fail;refine(bvk _ _ _ (by omega)).mono ?_;rintro e w2 ⟨rfl,rfl⟩;rw[Hsz.out];go_wp2_with fail;refine(ayb _ _ Hz.out).mono ?_;rintro e w2 ⟨rfl,b2⟩;go_wp2_with fail;refine(ax5 _ _ _ (by omega)).mono ?_;rintro e w3 ⟨rfl,b3⟩;go_wp2_with fail;refine(bza _ _ Hl3.out).mono ?_;rintro e w4 ⟨rfl,b4⟩;go_wp2
  go_ret2
  exact⟨by rw[He.out,<-Hm.out];rfl,bthen (bthen (bthen b1 b2) b3) b4⟩
 ·have He:=kept (show Seal.enc s.data.toList n p.data.toList=([],Seal.check s.data.toList) by rw[Seal.enc,if_pos hc]);have hc':(Seal.check s.data.toList==0)=false:=Zs.2 hc;generalize hq:Seal.check s.data.toList=q at *;have Hq:=kept hq;clear hc hq;go_enter Tryz.func81,Tryz.ntmps81;go_wp2_with fail;refine(check_any _ _ hs).mono ?_;rintro e w1 ⟨rfl,rfl⟩;rw[Hq.out];go_wp2
  go_ret2
  exact⟨by rw[He.out];rfl,Below.refl _ _⟩
theorem bzt(l:List UInt8):(Crc.ver l).1.length<=l.length-4:=by
 unfold Crc.ver;split
 ·simp
 ·split
  ·simp
  ·simp
theorem cy9(l:List UInt8):(Crc.ver l).1.length<=l.length:=Zr (bzt l) (Nat.sub_le _ _)
theorem avc(s:ByteArray)(w:World)(hs:s.size<=1000000000)(h:s.data.toList.take 4=[80,83,76,49]):
  Calls Tryz.prog 85 #[.string s,.string ⟨#[80,83,76,49]⟩] w fun e w'=>e=.returned (.bool true)/\w=w':=by
 have hl:4<=s.size:=by
  have:=congrArg List.length h;rw[Zk,aqu]at this;simp at this;omega
 have hx:((s.extract 0 4).toList == [80,83,76,49])=true:=by rw[ByteArray.toList_eq,axg,h];rfl
 have hl':(4:Int)<=s.size:=by omega
 clear h hl;go_enter Tryz.func85,Tryz.ntmps85;go_wp2
 go_ret
 exact⟨rfl,rfl⟩
theorem bx2(s:ByteArray)(w:World)(h:s.data.toList.take 4≠[80,83,76,49]):
  Calls Tryz.prog 85 #[.string s,.string ⟨#[80,83,76,49]⟩] w fun e w'=>e=.returned (.bool false)/\w=w':=by
 have hx:((s.extract 0 4).toList == [80,83,76,49])=false:=by rw[ByteArray.toList_eq,axg];exact Zs.2 h
 clear h;go_enter Tryz.func85,Tryz.ntmps85;go_wp2;all_goals go_ret
 all_goals exact⟨rfl,rfl⟩
def FormEnd(r:Int×Int×List UInt8×Int):Ending:=.returned (.tuple #[.int .u64 r.1,.int .u64 r.2.1,.string ⟨r.2.2.1.toArray⟩,.int .i64 r.2.2.2])
theorem ck2(l:List UInt8)(v:List UInt8)(k:Int)(h:Crc.ver l=(v,k))(hk:k≠0):Seal.form l=(0,0,[],k):=by
 rw[Seal.form,h,if_pos hk]
theorem bwe(l:List UInt8)(v:List UInt8)(h:Crc.ver l=(v,0))(hb:v.length<20\/v.take 4≠[80,83,76,49]):Seal.form l=(0,0,[],2):=by
 rw[Seal.form,h,if_neg (by simp),if_pos hb]
theorem cjw(l:List UInt8)(v:List UInt8)(h:Crc.ver l=(v,0))(h1:20<=v.length)(h2:v.take 4=[80,83,76,49])(h3:v.length<=1048596):
  Seal.form l=(((Seal.number (v.drop 4):Nat):Int),((Seal.number (v.drop 12):Nat):Int),v.drop 20,(0:Int)):=by
 rw[Seal.form,h,if_neg (by simp),if_neg (by simp only[h2];simp;omega),if_neg (by simp;omega)]
theorem djp(s:ByteArray)(w:World)(h8:8<=s.size):
  Calls Tryz.prog 149 #[.string s] w fun e w'=>e=.returned (.int .u64 (Seal.number s.data.toList:Nat))/\w'=w:=
 (cvy s w h8).mono fun _ _ ⟨a,b⟩=>⟨a,b.symm⟩
theorem bvf(s:ByteArray)(w:World)(hs:s.size<=1048600):
  Calls Tryz.prog 118 #[.string s] w fun e w'=>e=FormEnd (Seal.form s.data.toList)/\Below w.heap.size w w':=by
 generalize hv:Crc.ver s.data.toList=r;obtain⟨v,k⟩:=r;have Hv:=kept hv;have hlen:v.length<=1048596:=by have:=bzt s.data.toList;rw[hv,aqu]at this;simp only at this;omega
 obtain⟨t,ht⟩:∃t:ByteArray,t=⟨v.toArray⟩:=⟨_,rfl⟩;have Ht:=kept ht.symm;have htv:t.data.toList=v:=by rw[ht]
 have Htv:=kept htv;have hts:t.size<=1048596:=by rw[ht,size_mk];exact hlen
 clear hv ht htv;by_cases hk:k=0
 ·subst hk;by_cases hp:t.data.toList.take 4=[80,83,76,49]
  ·by_cases h20:20<=t.size
   ·have Hf:=kept (cjw _ v Hv.out (by rw[<-Htv.out,aqu];exact h20) (by rw[<-Htv.out];exact hp) hlen);have Hp:=kept hp;have h20':(20:Int)<=t.size:=by omega
    have hts':(t.size:Int)<=1048596:=by omega
    clear hp hlen;go_enter Tryz.func118,Tryz.ntmps118;go_wp2_with fail;refine(avk _ _ _ _ (by omega) Hv.out).mono ?_;rintro e w1 ⟨rfl,b1⟩;rw[Ht.out];have B1:=kept b1;clear b1;go_wp2_with fail;refine(avc _ _ (by omega) Hp.out).mono ?_;rintro e w2 ⟨rfl,rfl⟩;go_wp2_with fail
    go_quiet ((go_at_call 149;exact Calls.quiet_of_same (djp _ _ (by simp;omega))))
    go_wp2;refine bodyPost_ret (v:=.tuple #[.int .u64 (Seal.number (t.extract 4 t.size).data.toList:Nat),.int .u64 (Seal.number (t.extract 12 t.size).data.toList:Nat),.string (t.extract 20 t.size),.int .i64 0]) (by simp[results,Tryz.results118,go_sem]) rfl ⟨?_,B1.out.trans (below_drewN (Below.refl _ _) _)⟩;rw[Hf.out,aql,aql,Htv.out,cya (aql t 20),Htv.out];rfl
   ·have Hf:=kept (bwe _ v Hv.out (.inl (by rw[<-Htv.out,aqu];omega)));have Hp:=kept hp;have h20':¬(20:Int)<=t.size:=by omega
    have hts':(t.size:Int)<=1048596:=by omega
    clear hp hlen h20;go_enter Tryz.func118,Tryz.ntmps118;go_wp2_with fail;refine(avk _ _ _ _ (by omega) Hv.out).mono ?_;rintro e w1 ⟨rfl,b1⟩;rw[Ht.out];have B1:=kept b1;clear b1;go_wp2_with fail;refine(avc _ _ (by omega) Hp.out).mono ?_;rintro e w2 ⟨rfl,rfl⟩;go_wp2;refine bodyPost_ret (v:=.tuple #[.int .u64 0,.int .u64 0,.string ⟨#[]⟩,.int .i64 2]) (by simp[results,Tryz.results118,go_sem]) rfl ⟨by rw[Hf.out];rfl,B1.out⟩
  ·have Hf:=kept (bwe _ v Hv.out (.inr (by rw[<-Htv.out];exact hp)));have Hp:=kept hp;have hts':(t.size:Int)<=1048596:=by omega
   clear hp hlen;go_enter Tryz.func118,Tryz.ntmps118;go_wp2_with fail;refine(avk _ _ _ _ (by omega) Hv.out).mono ?_;rintro e w1 ⟨rfl,b1⟩;rw[Ht.out];have B1:=kept b1;clear b1;go_wp2_with fail;refine(bx2 _ _ Hp.out).mono ?_;rintro e w2 ⟨rfl,rfl⟩;go_wp2;refine bodyPost_ret (v:=.tuple #[.int .u64 0,.int .u64 0,.string ⟨#[]⟩,.int .i64 2]) (by simp[results,Tryz.results118,go_sem]) rfl ⟨by rw[Hf.out];rfl,B1.out⟩
 ·have Hf:=kept (ck2 _ v k Hv.out hk);have hk':(k==0)=false:=Zs.2 hk;clear hk hlen;go_enter Tryz.func118,Tryz.ntmps118;go_wp2_with fail;refine(avk _ _ _ _ (by omega) Hv.out).mono ?_;rintro e w1 ⟨rfl,b1⟩;rw[Ht.out];have B1:=kept b1;clear b1;go_wp2;refine bodyPost_ret (v:=.tuple #[.int .u64 0,.int .u64 0,.string ⟨#[]⟩,.int .i64 k]) (by simp[results,Tryz.results118,go_sem]) rfl ⟨by rw[Hf.out];rfl,B1.out⟩
theorem bzr(l:List UInt8):Seal.U64 (Seal.form l).1/\(Seal.form l).2.2.1.length<=l.length-24:=by
 have hl:=bzt l;unfold Seal.form;split
 ·exact⟨⟨by simp,by simp⟩,by simp⟩
 ·split
  ·exact⟨⟨by simp,by simp⟩,by simp⟩
  ·split
   ·exact⟨⟨by simp,by simp⟩,by simp⟩
   ·refine⟨⟨by simp only;omega,?_⟩,by simp;omega⟩;have:=Seal.number_lt ((Crc.ver l).1.drop 4);simp only;omega
theorem cvw(k l:List UInt8):(Seal.dec k l).1.length<=l.length-24:=by
 have h:=(bzr l).2;unfold Seal.dec;split
 ·simp
 ·split
  ·simp
  ·split
   ·simp
   ·simp only[Seal.comb_length];exact h
theorem cy5(k l:List UInt8):(Seal.dec k l).1.length<=l.length:=Zr (cvw k l) (Nat.sub_le _ _)
theorem av3(s:ByteArray)(n m k:Int)(h:List UInt8)(w:World)(hs:s.size<=1048600)(hf:Seal.form s.data.toList=(n,m,h,k)):
  Calls Tryz.prog 118 #[.string s] w fun e w'=>e=.returned (.tuple #[.int .u64 n,.int .u64 m,.string ⟨h.toArray⟩,.int .i64 k])/\Below w.heap.size w w':=by
 have:=bvf s w hs;rw[hf]at this;exact this
theorem dze(s t:ByteArray)(w:World)(hs:s.size<=1000000000)(ht:t.size<=1048600):
  Calls Tryz.prog 84 #[.string s,.string t] w fun e w'=>e=.returned (.tuple #[.string ⟨(Seal.dec s.data.toList t.data.toList).1.toArray⟩,.int .i64 (Seal.dec s.data.toList t.data.toList).2])/\Below w.heap.size w w':=by
 by_cases hc:Seal.check s.data.toList=0
 ·generalize hf:Seal.form t.data.toList=r;obtain⟨n,m,h,k⟩:=r;have Hf:=kept hf;have Hc:=kept hc;have hu:=bzr t.data.toList;rw[hf,aqu]at hu;have Hu:=kept hu.1;have Hh:=kept (show(⟨h.toArray⟩:ByteArray).size<=1048576 by rw[size_mk];have:=hu.2;dsimp only at this;omega);by_cases hk:k=0
  ·subst hk;generalize hx:Seal.seed s.data.toList n=x;have Hx:=kept hx;have Hcl:=kept (show(⟨(Seal.comb x 0 h).toArray⟩:ByteArray).size<=1000000000 by rw[size_mk,Seal.comb_length,<-size_mk h];have:=Hh.out;omega);by_cases htag:Seal.tag x (Seal.comb x 0 h)=m
   ·have Hd:=kept (show Seal.dec s.data.toList t.data.toList=(Seal.comb x 0 h,0) by
     rw[Seal.dec,if_neg (by simpa using hc),hf,if_neg (by simp),hx,if_neg (by simpa using htag)])
    have Ht:=kept htag;clear hc hf hu hx htag;go_enter Tryz.func84,Tryz.ntmps84;go_wp2_with fail;refine(check_any _ _ hs).mono ?_;rintro e w1 ⟨rfl,rfl⟩;rw[Hc.out];go_wp2_with fail;refine(av3 _ _ _ _ _ _ ht Hf.out).mono ?_;rintro e w1 ⟨rfl,b1⟩;go_wp2_with fail;refine(bzz _ _ _ hs).mono ?_;rintro e w2 ⟨rfl,rfl⟩;rw[Hx.out];go_wp2_with fail;refine(ax5 _ _ _ (by have:=Hh.out;omega)).mono ?_;rintro e w3 ⟨rfl,b3⟩;go_wp2_with fail;refine(bvk _ _ _ Hcl.out).mono ?_;rintro e w4 ⟨rfl,rfl⟩;rw[Ht.out];go_wp2
    go_ret2
    exact⟨by rw[Hd.out];rfl,bthen b1 b3⟩
   ·have Hd:=kept (show Seal.dec s.data.toList t.data.toList=([],26) by
     rw[Seal.dec,if_neg (by simpa using hc),hf,if_neg (by simp),hx,if_pos htag])
    have hne:(Seal.tag x (Seal.comb x 0 h)==m)=false:=Zs.2 htag;generalize hq:Seal.tag x (Seal.comb x 0 h)=q at *;have Hq:=kept hq;clear hc hf hu hx htag hq;go_enter Tryz.func84,Tryz.ntmps84;go_wp2_with fail;refine(check_any _ _ hs).mono ?_;rintro e w1 ⟨rfl,rfl⟩;rw[Hc.out];go_wp2_with fail;refine(av3 _ _ _ _ _ _ ht Hf.out).mono ?_;rintro e w1 ⟨rfl,b1⟩;go_wp2_with fail;refine(bzz _ _ _ hs).mono ?_;rintro e w2 ⟨rfl,rfl⟩;rw[Hx.out];go_wp2_with fail;refine(ax5 _ _ _ (by have:=Hh.out;omega)).mono ?_;rintro e w3 ⟨rfl,b3⟩;go_wp2_with fail;refine(bvk _ _ _ Hcl.out).mono ?_;rintro e w4 ⟨rfl,rfl⟩;rw[Hq.out];go_wp2
    go_ret2
    exact⟨by rw[Hd.out];rfl,bthen b1 b3⟩
  ·have Hd:=kept (show Seal.dec s.data.toList t.data.toList=([],k) by
    rw[Seal.dec,if_neg (by simpa using hc),hf,if_pos hk])
   have hk':(k==0)=false:=Zs.2 hk;clear hc hf hu hk;go_enter Tryz.func84,Tryz.ntmps84;go_wp2_with fail;refine(check_any _ _ hs).mono ?_;rintro e w1 ⟨rfl,rfl⟩;rw[Hc.out];go_wp2_with fail;refine(av3 _ _ _ _ _ _ ht Hf.out).mono ?_;rintro e w1 ⟨rfl,b1⟩;go_wp2
   go_ret2
   exact⟨by rw[Hd.out];rfl,b1⟩
 ·have He:=kept (show Seal.dec s.data.toList t.data.toList=([],Seal.check s.data.toList) by rw[Seal.dec,if_pos hc]);have hc':(Seal.check s.data.toList==0)=false:=Zs.2 hc;generalize hq:Seal.check s.data.toList=q at *;have Hq:=kept hq;clear hc hq;go_enter Tryz.func84,Tryz.ntmps84;go_wp2_with fail;refine(check_any _ _ hs).mono ?_;rintro e w1 ⟨rfl,rfl⟩;rw[Hq.out];go_wp2
  go_ret2
  exact⟨by rw[He.out];rfl,Below.refl _ _⟩
end Go.Proofs.YthhpocnmfknalaaGreatDoor

namespace Go.Proofs.YthhpocnmfknalaaGreatDoor
namespace Seal
theorem ver_app(l:List UInt8):Crc.ver (Crc.app l)=(l,0):=by
 unfold Crc.ver Crc.app;rw[if_neg (by simp[Crc.four_length]),if_pos (by simp[Crc.four_length])];simp[Crc.four_length]
theorem app_ver(l v:List UInt8)(h:Crc.ver l=(v,0)):l=Crc.app v:=by
 unfold Crc.ver at h;split at h
 ·simp at h
 ·split at h
  ·rename_i h1 h2;simp only[Zw,and_true]at h;subst h;unfold Crc.app;rw[<-h2,Yo]
  ·simp at h
theorem body_parts(k:List UInt8)(n:Int)(p:List UInt8):
  (body k n p).length=20+p.length/\(body k n p).take 4=[80,83,76,49]/\((body k n p).drop 4).take 8=eight n.toNat/\((body k n p).drop 12).take 8=eight (tag (seed k n) p).toNat/\(body k n p).drop 20=comb (seed k n) 0 p:=by
 unfold body;have h1:=eight_length n.toNat;have h2:=eight_length (tag (seed k n) p).toNat;generalize eight n.toNat=a at *;generalize eight (tag (seed k n) p).toNat=b at *;refine⟨by simp[h1,h2,comb_length];omega,by simp,?_,?_,?_⟩
 ·simp[h1]
 ·simp[h1,h2]
 ·simp[h1,h2,List.drop_append]
theorem form_app(k:List UInt8)(n:Int)(p:List UInt8)(hn:U64 n)(hp:p.length<=1048576):
  form (Crc.app (body k n p))=(n,tag (seed k n) p,comb (seed k n) 0 p,(0:Int)):=by
 obtain⟨h1,h2,h3,h4,h5⟩:=body_parts k n p;have ht:=tag_u64 (seed k n) p;have e1:((number ((body k n p).drop 4):Nat):Int)=n:=by
  rw[number,h3,le_eight _ (by have:=hn.hi;have:=hn.lo;omega)];have:=hn.lo;omega
 have e2:((number ((body k n p).drop 12):Nat):Int)=tag (seed k n) p:=by
  rw[number,h4,le_eight _ (by have:=ht.hi;have:=ht.lo;omega)];have:=ht.lo;omega
 rw[form,ver_app,if_neg (by simp),if_neg (by simp only[h1,h2];simp),if_neg (by simp only[h1];omega)];simp only[e1,e2,h5]
theorem dec_enc(k:List UInt8)(n:Int)(p:List UInt8)(hc:check k=0)(hn:U64 n)(hp:p.length<=1048576):dec k (Crc.app (body k n p))=(p,0):=by
 rw[dec,if_neg (by simpa using hc),form_app k n p hn hp,if_neg (by simp)];simp only[comb_comb];rw[if_neg (by simp)]
theorem enc_ok(k:List UInt8)(n:Int)(p:List UInt8)(hc:check k=0)(hp:p.length<=1048576):enc k n p=(Crc.app (body k n p),0):=by
 rw[enc,if_neg (by simpa using hc),if_neg (by omega)]
theorem form_zero(t:List UInt8)(n m:Int)(h:List UInt8)(hf:form t=(n,m,h,(0:Int))):
  ∃v,Crc.ver t=(v,0)/\20<=v.length/\v.length<=1048596/\v.take 4=[80,83,76,49]/\n=(number (v.drop 4):Nat)/\m=(number (v.drop 12):Nat)/\h=v.drop 20:=by
 generalize hv:Crc.ver t=r at *;obtain⟨v,k⟩:=r;rw[form,hv]at hf;split at hf
 ·rename_i hk;simp only[Zw]at hf;exact absurd hf.2.2.2 hk
 ·rename_i hk;have hk0:k=0:=by simpa using hk
  subst hk0;split at hf
  ·simp at hf
  ·rename_i hb;split at hf
   ·simp at hf
   ·rename_i hl;simp only[Zw,and_true]at hf;simp only[not_or,Nat.not_lt,ne_eq,Classical.not_not]at hb;exact⟨v,rfl,hb.1,by simpa using hl,hb.2,hf.1.symm,hf.2.1.symm,hf.2.2.symm⟩
theorem enc_dec(k t p:List UInt8)(h:dec k t=(p,0)):check k=0/\U64 (nonce t).1/\(nonce t).2=0/\p.length<=1048576/\enc k (nonce t).1 p=(t,0):=by
 unfold dec at h;split at h
 ·rename_i hk;simp only[Zw]at h;exact absurd h.2 hk
 ·rename_i hk;have hc:check k=0:=by simpa using hk
  generalize hf:form t=r at *;obtain⟨n,m,hd,e⟩:=r;split at h
  ·rename_i he;simp only[Zw]at h;exact absurd h.2 he
  ·rename_i he;have he0:e=0:=by simpa using he
   subst he0;split at h
   ·simp at h
   ·rename_i htag;simp only[ne_eq,Classical.not_not]at htag;simp only[Zw,and_true]at h;obtain⟨v,hv,h20,hmax,hmag,rfl,rfl,rfl⟩:=form_zero t n m hd hf;have hpl:p.length<=1048576:=by rw[<-h,comb_length];simp;omega
    have hno:nonce t=(((number (v.drop 4):Nat):Int),(0:Int)):=by rw[nonce,hf]
    have hnl:=number_lt (v.drop 4);refine⟨hc,by rw[hno];exact⟨by simp only;omega,by simp only;omega⟩,by rw[hno],hpl,?_⟩;rw[hno,enc_ok k _ p hc hpl,app_ver t v hv];congr 2;simp only;rw[body,<-h,comb_comb,htag,Yu,Yu,eight_number _ (by simp;omega),eight_number _ (by simp;omega),<-hmag];have e1:v=v.take 4++((v.drop 4).take 8++((v.drop 12).take 8++v.drop 20)):=by
     rw[show v.drop 20=(v.drop 12).drop 8 by simp,Yo,show v.drop 12=(v.drop 4).drop 8 by simp,Yo,Yo]
    simp only[Zi];exact e1.symm
end Seal
end Go.Proofs.YthhpocnmfknalaaGreatDoor
