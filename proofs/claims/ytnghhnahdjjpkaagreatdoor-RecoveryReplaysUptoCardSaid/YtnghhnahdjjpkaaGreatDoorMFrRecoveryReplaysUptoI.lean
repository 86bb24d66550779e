/- Part of what the proof needs. -/
import Derived.Test.YtnghhnahdjjpkaaGreatDoorMFrRecoveryReplaysUpto0
import Derived.Test.YtnghhnahdjjpkaaGreatDoorMFrRecoveryReplaysUptoA
import Init.Data.Nat.Bitwise.Lemmas
import Derived.Test.YtnghhnahdjjpkaaGreatDoorRows
import Derived.Deep.RegionWith
set_option maxHeartbeats 4000000
set_option maxRecDepth 100000
set_option linter.all false
namespace Go.Proofs.YtnghhnahdjjpkaaGreatDoor.Crc
def turn1(x:Nat):Nat:=if x%2=1 then x/2^^^3988292384 else x/2
def turns:Nat→Nat→Nat
 |0,x=>x
 |k+1,x=>turn1 (turns k x)
def byte(x:Nat)(b:UInt8):Nat:=turns 8 (x^^^b.toNat)
def reg(x:Nat)(l:List UInt8):Nat:=l.foldl byte x
def upd(x:Nat)(l:List UInt8):Nat:=reg (x^^^4294967295) l^^^4294967295
def four(n:Nat):List UInt8:=[UInt8.ofNat n,UInt8.ofNat (n/256),UInt8.ofNat (n/65536),UInt8.ofNat (n/16777216)]
def app(l:List UInt8):List UInt8:=l++four (upd 0 l)
def ver(l:List UInt8):List UInt8×Int:=
 if l.length<4 then([],40)else if l.drop (l.length-4)=four (upd 0 (l.take (l.length-4)))then(l.take (l.length-4),0)else([],20)
def le:List UInt8→Nat
 |[]=>0
 |b::l=>b.toNat+256*le l
theorem le_lt(l:List UInt8):le l<2^(8*l.length):=by
 induction l with
 |nil=>simp[le]
 |cons b l ih=>
  have:=b.toNat_lt;rw[Zi,Nat.mul_add,Nat.pow_add,le];omega
end Go.Proofs.YtnghhnahdjjpkaaGreatDoor.Crc

namespace Go.Proofs.YtnghhnahdjjpkaaGreatDoor
open Go.RowKit
namespace Seal
structure U64(x:Int):Prop where
 lo:0≤x
 hi:x<18446744073709551616
def xor(x y:Int):Int:=bits .xor .u64 x y
def mul(x y:Int):Int:=IntKind.u64.wrap (x*y)
def mix(x:Int):Int:=
 let a:=IntKind.u64.wrap (x+11400714819323198485)
 let b:=IntKind.u64.wrap (bits .xor .u64 a (a/1073741824)*13787848793156543929)
 let c:=IntKind.u64.wrap (bits .xor .u64 b (b/134217728)*10723151780598845931)
 bits .xor .u64 c (c/2147483648)
def fold1(h:Int)(b:UInt8):Int:=mix (bits .xor .u64 h (IntKind.u64.wrap b.toNat))
def fold(h:Int)(l:List UInt8):Int:=l.foldl fold1 h
def seed(key:List UInt8)(nonce:Int):Int:=mix (bits .xor .u64 (fold (mix key.length) key) nonce)
def tag(seed:Int)(s:List UInt8):Int:=fold (mix (bits .xor .u64 seed 18446744073709551615)) s
def word(seed:Int)(j:Nat):Int:=mix (bits .xor .u64 seed (mix (j+1)))
def key(seed:Int)(i:Nat):UInt8:=UInt8.ofNat ((word seed (i/8)).toNat/2^(8*(i%8)))
def comb(seed:Int):Nat→List UInt8→List UInt8
 |_,[]=>[]
 |i,b::l=>(b^^^key seed i)::comb seed (i+1) l
theorem comb_length(seed:Int)(i:Nat)(l:List UInt8):(comb seed i l).length=l.length:=by
 induction l generalizing i with
 |nil=>rfl
 |cons b l ih=>simp[comb,ih]
theorem comb_comb(seed:Int)(i:Nat)(l:List UInt8):comb seed i (comb seed i l)=l:=by
 induction l generalizing i with
 |nil=>rfl
 |cons b l ih=>simp[comb,ih,UInt8.xor_assoc]
def eight(x:Nat):List UInt8:=(List.range 8).map fun i=>UInt8.ofNat (x/2^(8*i))
theorem eight_length(x:Nat):(eight x).length=8:=by simp[eight]
def number(l:List UInt8):Nat:=Crc.le (l.take 8)
theorem le_eight(x:Nat)(h:x<18446744073709551616):Crc.le (eight x)=x:=by
 simp only[eight,show List.range 8=[0,1,2,3,4,5,6,7]from rfl,List.map,Crc.le,Yz,Nat.reduceMul,Nat.reducePow,Nat.div_one];omega
theorem le_inj(l m:List UInt8)(hl:l.length=m.length)(h:Crc.le l=Crc.le m):l=m:=by
 induction l generalizing m with
 |nil=>exact(ZS (by simpa using hl.symm)).symm
 |cons b l ih=>
  cases m with
  |nil=>simp at hl
  |cons c m=>
   have hb:=b.toNat_lt;have hc:=c.toNat_lt;simp only[Crc.le]at h;have h1:b=c:=by rw[←Ym];omega
   rw[h1,ih m (by simpa using hl) (by omega)]
theorem eight_number(l:List UInt8)(h:8≤l.length):eight (number l)=l.take 8:=by
 apply le_inj
 ·rw[eight_length];simp;omega
 ·have h1:=Crc.le_lt (l.take 8);rw[Zk,Nat.min_eq_left h]at h1;exact le_eight _ (by simpa [number]using h1)
theorem number_lt(l:List UInt8):number l<18446744073709551616:=by
 have h1:=Crc.le_lt (l.take 8);have h2:(l.take 8).length≤8:=by simp;omega
 have h3:2^(8*(l.take 8).length)≤2^(8*8):=Y9 (by omega) (by omega);have:(2:Nat)^(8*8)=18446744073709551616:=by decide
 unfold number;omega
def check(k:List UInt8):Int:=if k=[]then 1 else if 64<k.length then 3 else 0
def body(key:List UInt8)(nonce:Int)(plain:List UInt8):List UInt8:=
 [80,83,76,49]++eight nonce.toNat++eight (tag (seed key nonce) plain).toNat++comb (seed key nonce) 0 plain
def enc(key:List UInt8)(nonce:Int)(plain:List UInt8):List UInt8×Int:=
 if check key≠0 then([],check key)else if 1048576<plain.length then([],3)else(Crc.app (body key nonce plain),0)
def form(sealed:List UInt8):Int×Int×List UInt8×Int:=
 if(Crc.ver sealed).2≠0 then(0,0,[],(Crc.ver sealed).2)
 else if(Crc.ver sealed).1.length<20∨(Crc.ver sealed).1.take 4≠[80,83,76,49]then(0,0,[],2)
 else if 1048596<(Crc.ver sealed).1.length then(0,0,[],3)
 else(number ((Crc.ver sealed).1.drop 4),number ((Crc.ver sealed).1.drop 12),(Crc.ver sealed).1.drop 20,0)
def dec(key sealed:List UInt8):List UInt8×Int:=
 if check key≠0 then([],check key)else if(form sealed).2.2.2≠0 then([],(form sealed).2.2.2)
 else if tag (seed key (form sealed).1) (comb (seed key (form sealed).1) 0 (form sealed).2.2.1)≠(form sealed).2.1 then([],26)
 else(comb (seed key (form sealed).1) 0 (form sealed).2.2.1,0)
def nonce(sealed:List UInt8):Int×Int:=((form sealed).1,(form sealed).2.2.2)
end Seal
end Go.Proofs.YtnghhnahdjjpkaaGreatDoor

namespace Go.Proofs.YtnghhnahdjjpkaaGreatDoor
namespace Seal
theorem app_ver(l v:List UInt8)(h:Crc.ver l=(v,0)):l=Crc.app v:=by
 unfold Crc.ver at h;split at h
 ·simp at h
 ·split at h
  ·rename_i h1 h2;simp only[Zv,and_true]at h;subst h;unfold Crc.app;rw[←h2,Y7]
  ·simp at h
theorem enc_ok(k:List UInt8)(n:Int)(p:List UInt8)(hc:check k=0)(hp:p.length≤1048576):enc k n p=(Crc.app (body k n p),0):=by
 rw[enc,if_neg (by simpa using hc),if_neg (by omega)]
theorem form_zero(t:List UInt8)(n m:Int)(h:List UInt8)(hf:form t=(n,m,h,(0:Int))):
  ∃v,Crc.ver t=(v,0)∧20≤v.length∧v.length≤1048596∧v.take 4=[80,83,76,49]∧n=(number (v.drop 4):Nat)∧m=(number (v.drop 12):Nat)∧h=v.drop 20:=by
 generalize hv:Crc.ver t=r at *;obtain⟨v,k⟩:=r;rw[form,hv]at hf;split at hf
 ·rename_i hk;simp only[Zv]at hf;exact absurd hf.2.2.2 hk
 ·rename_i hk;have hk0:k=0:=by simpa using hk
  subst hk0;split at hf
  ·simp at hf
  ·rename_i hb;split at hf
   ·simp at hf
   ·rename_i hl;simp only[Zv,and_true]at hf;simp only[not_or,Nat.not_lt,ne_eq,Classical.not_not]at hb;exact⟨v,rfl,hb.1,by simpa using hl,hb.2,hf.1.symm,hf.2.1.symm,hf.2.2.symm⟩
theorem enc_dec(k t p:List UInt8)(h:dec k t=(p,0)):check k=0∧U64 (nonce t).1∧(nonce t).2=0∧p.length≤1048576∧enc k (nonce t).1 p=(t,0):=by
 unfold dec at h;split at h
 ·rename_i hk;simp only[Zv]at h;exact absurd h.2 hk
 ·rename_i hk;have hc:check k=0:=by simpa using hk
  generalize hf:form t=r at *;obtain⟨n,m,hd,e⟩:=r;split at h
  ·rename_i he;simp only[Zv]at h;exact absurd h.2 he
  ·rename_i he;have he0:e=0:=by simpa using he
   subst he0;split at h
   ·simp at h
   ·rename_i htag;simp only[ne_eq,Classical.not_not]at htag;simp only[Zv,and_true]at h;obtain⟨v,hv,h20,hmax,hmag,rfl,rfl,rfl⟩:=form_zero t n m hd hf;have hpl:p.length≤1048576:=by rw[←h,comb_length];simp;omega
    have hno:nonce t=(((number (v.drop 4):Nat):Int),(0:Int)):=by rw[nonce,hf]
    have hnl:=number_lt (v.drop 4);refine⟨hc,by rw[hno];exact⟨by simp only;omega,by simp only;omega⟩,by rw[hno],hpl,?_⟩;rw[hno,enc_ok k _ p hc hpl,app_ver t v hv];congr 2;simp only;rw[body,←h,comb_comb,htag,YS,YS,eight_number _ (by simp;omega),eight_number _ (by simp;omega),←hmag];have e1:v=v.take 4++((v.drop 4).take 8++((v.drop 12).take 8++v.drop 20)):=by
     rw[show v.drop 20=(v.drop 12).drop 8 by simp,Y7,show v.drop 12=(v.drop 4).drop 8 by simp,Y7,Y7]
    simp only[ZK];exact e1.symm
end Seal
end Go.Proofs.YtnghhnahdjjpkaaGreatDoor

namespace Go.Proofs.YtnghhnahdjjpkaaGreatDoor
open Go.RowKit
end Go.Proofs.YtnghhnahdjjpkaaGreatDoor
