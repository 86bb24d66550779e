/- Part of what the proof needs. -/
import Derived.Test.YtnghhnahdjjpkaaGreatDoorMFrRecoveryReplaysUpto0
import Derived.Test.YtnghhnahdjjpkaaGreatDoorMFrRecoveryReplaysUptoA
import Derived.Test.YtnghhnahdjjpkaaGreatDoorMFrRecoveryReplaysUptoG
import Derived.Test.YtnghhnahdjjpkaaGreatDoorMFrRecoveryReplaysUptoH
import Derived.Lib.FrozenHead
import Derived.BigRegion
import Derived.Laws.Append
import Derived.Laws.AppendOwn
import Derived.Test.YtnghhnahdjjpkaaGreatDoorRows
import Derived.Deep.QuietTactic
import Derived.BigQuiet
import Derived.IntWalk
set_option maxHeartbeats 4000000
set_option maxRecDepth 100000
set_option linter.all false
namespace Go.Proofs.YtnghhnahdjjpkaaGreatDoor
section
open Go.RowKit
theorem ckg:(Tryz.prog.info? 5).map (fun i=>(i.zero,i.size,i.bytes))=some (some (.int .u8 0),1,1):=by kernel_rfl
structure Fr(F:Nat→Prop)(w w':World):Prop where
 os:w'.os=w.os
 tape:w'.tape=w.tape
 output:w'.output=w.output
 size:w.heap.size≤w'.heap.size
 block:∀k,k<w.heap.size→¬F k→w'.heap[k]?=w.heap[k]?
theorem Fr.refl(F:Nat→Prop)(w:World):Fr F w w:=⟨rfl,rfl,rfl,Zh _,fun _ _ _=>rfl⟩
theorem Fr.trans{F:Nat→Prop}{a b c:World}(h:Fr F a b)(k:Fr F b c):Fr F a c:=
 ⟨k.os.trans h.os,k.tape.trans h.tape,k.output.trans h.output,Zs h.size k.size,fun g hg hn=>(k.block g (ZA hg h.size) hn).trans (h.block g hg hn)⟩
theorem Fr.grown{F:Nat→Prop}{a b:World}{r:Option Nat}(h:a.grownBy b r)(hr:∀k,r=some k→F k):Fr F a b:=
 ⟨h.os,h.tape,h.output,h.size,fun g hg hn=>h.block g hg fun e=>hn (hr g e.symm)⟩
theorem Fr.set{F:Nat→Prop}(w:World)(b i:Nat)(v:Value)(hF:F b):Fr F w (w.setCell ⟨b,i,none⟩ v):=
 Fr.grown (grown_set' w b i v) fun k hk=>by injection hk with hk;subst hk;exact hF
where grown_set' (w:World) (g i:Nat) (v:Value):w.grownBy (w.setCell ⟨g,i,none⟩ v) (some g):=
 ⟨rfl,rfl,rfl,by simp[World.setCell],fun k _ hk=>Below.heap_setCell _ _ _ _ (fun e=>hk (by simp[e]))⟩
theorem dqe{P:Program}(w:World)(t u ty e:TypeId)(i:TypeInfo)(ht:P.underlying t=some (.slice e))(hu:P.underlying u=some .string)(hi:P.info? e=some i)(hz:i.zero=some (.int .u8 0))
  (hsize:i.size=1) (hby:i.bytes=1) (v:Value) (n:Nat) (xs:List Value) (hown:w.ownsRowF 0 e 1 v n xs) (s:ByteArray) (h63:n+s.size≤maxLen) (hbytes:n+s.size≤140737488355328):
  ∃v' w',(Builtin.append_ #[t,u] ty #[v,.string s]).run P w=.ok v' w'∧w'.ownsRowF 0 e 1 v' (n+s.size) (xs++Lib.strCells s)∧w.grownBy w' v.ownBlock∧(∀k,v'.ownBlock=some k→v.ownBlock=some k∨w.heap.size≤k):=by
 obtain⟨v',w',hr,h2,h3,h4⟩:=Lib.run_append_own_stringF (P:=P) w 0 t u ty e i ht hu hi hz hsize hby v n xs hown s h63 hbytes (Zq _);refine⟨v',w',hr,h2,h3,fun k hk=>?_⟩;rcases hown.2 with⟨rfl,rfl⟩|⟨g,cap,cur,fz,rfl,hbg,hg,hfz,hnc,hcm,hcs,htake⟩
 ·obtain⟨v2,w2,k1,k2,k3,k4⟩:=Lib.run_append_own_string (P:=P) w w.heap.size t u ty e i ht hu hi hz hsize hby (.slice none 0 0) 0 xs ⟨hown.1,.inl ⟨rfl,rfl⟩⟩ s h63 hbytes (Zh _);rw[hr]at k1;injection k1 with e1 e2;subst e1;exact .inr (k2.lt k hk).1
 ·have hsmall:n+s.size≤9223372036854775807:=by simp only[maxLen]at h63;omega
  have hxl:xs.length=n:=by simpa using hown.1
  by_cases hroom:n+s.size≤cap
  ·have hcs':cur.size=cap:=by simpa using hcs
   have hr2:=Lib.run_append_room_stringF (P:=P) w t u ty e i ht hu hi hsize g n cap cur fz hg (by simpa using hfz) s hroom (by omega);rw[hr]at hr2;injection hr2 with e1 e2;subst e1;exact .inl hk
  ·have holds:∀j u,xs[j]?=some u→w.cell? ((⟨g,0,none⟩:Addr).add j)=some u:=hown.cells (g:=g) rfl;have hr2:=Lib.run_append_grow_string (P:=P) w t u ty e i (.int .u8 0) ht hu hi hz ⟨g,0,none⟩ n cap xs (by rw[hsize];simpa using hxl) holds s (by omega) (by omega) (by rw[hby];exact growslice_fits (by omega) (by omega));rw[hr]at hr2;injection hr2 with e1 e2;subst e1;simp only[Value.ownBlock,Za]at hk;exact .inr (by omega)
theorem bzm{P:Program}(w:World){ops:Array Oper}{rest:List Oper}{o:Oper}{a:Act}{Q:Exit→Act→World→Prop}(hgd:o.guard=none)(sl x:Operand)(t u:TypeId)
  (ho:o.op=.call { callee:=.builtin .append,args:=#[sl,x],argTypes:=#[t,u] })
  (e:TypeId) (i:TypeInfo) (ht:P.underlying t=some (.slice e)) (hu:P.underlying u=some .string) (hi:P.info? e=some i) (hz:i.zero=some (.int .u8 0))
  (hsize:i.size=1) (hby:i.bytes=1)
  (v:Value) (n:Nat) (xs:List Value) (hs:a.eval sl=v) (hown:w.ownsRowF 0 e 1 v n xs) (s:ByteArray) (hx:a.eval x=.string s)
  (h63:n+s.size≤maxLen) (hbytes:n+s.size≤140737488355328)
  (h:∀v' w',w'.ownsRowF 0 e 1 v' (n+s.size) (xs++Lib.strCells s)→w.grownBy w' v.ownBlock→(∀k,v'.ownBlock=some k→v.ownBlock=some k∨w.heap.size≤k)→wpList P ops Q rest (a.put o.dst v') w'):wpList P ops Q (o::rest) a w:=by
 refine wpList_plain hgd fun K hK=>?_
 obtain⟨v',w',hr,h2,h3,h4⟩:=dqe (P:=P) w t u o.type e i ht hu hi hz hsize hby v n xs hown s h63 hbytes;unfold Oper.wp execOp;simp only[ho,resolve,invoke,builtin,Sem.run_bind,Sem.run_pure,Result.andThen_ok,List.map_toArray,ZE,Yj,hs,hx,hr];exact hK _ _ (h v' w' h2 h3 h4)
theorem dqm(s:ByteArray)(i lo hi:Int)(w:World)(h0:0≤i):
  Calls Tryz.prog 155 #[.string s,.int .i64 i,.int .u8 lo,.int .u8 hi] w fun e w'=>e=.returned (.bool (Str.inB s i.toNat lo hi))∧w=w':=by
 by_cases h1:i<s.size
 ·have h1':i.toNat<s.size:=by omega
  by_cases h2:lo≤(s[i.toNat].toNat:Int)
  ·have Hc:=kept (show Str.inB s i.toNat lo hi=decide ((s[i.toNat].toNat:Int)≤hi) by simp[Str.inB,h1',h2]);go_enter Tryz.func155,Tryz.ntmps155;go_wp2
   go_ret
   exact⟨az6 Hc.out.symm,rfl⟩
  ·have Hc:=kept (show Str.inB s i.toNat lo hi=false by simp[Str.inB,h2]);go_enter Tryz.func155,Tryz.ntmps155;go_wp2
   go_ret
   exact⟨az6 Hc.out.symm,rfl⟩
 ·have Hc:=kept (show Str.inB s i.toNat lo hi=false by simp[Str.inB];omega);go_enter Tryz.func155,Tryz.ntmps155;go_wp2
  go_ret
  exact⟨az6 Hc.out.symm,rfl⟩
theorem azm(s:ByteArray)(i lo hi:Int)(k:Nat)(c:Bool)(w:World)(h0:0≤i)(hk:i.toNat=k)(h:Str.inB s k lo hi=c):
  Calls Tryz.prog 155 #[.string s,.int .i64 i,.int .u8 lo,.int .u8 hi] w fun e w'=>e=.returned (.bool c)∧w=w':=by
 subst hk;subst h;exact dqm s i lo hi w h0
theorem aji(b:UInt8):bits .and .u8 (b.toNat:Int) 63=(b.toNat:Int)%64:=by
 have:=b.toNat_lt;rw[show(63:Int)=((63:Nat):Int)from rfl,u8_and_nat _ _ (by omega) (by omega),show(63:Nat)=2^6-1 from rfl,Y2];rfl
theorem dks(b:UInt8):bits .and .u8 (b.toNat:Int) 31=(b.toNat:Int)%32:=by
 have:=b.toNat_lt;rw[show(31:Int)=((31:Nat):Int)from rfl,u8_and_nat _ _ (by omega) (by omega),show(31:Nat)=2^5-1 from rfl,Y2];rfl
theorem dxz(b:UInt8):bits .and .u8 (b.toNat:Int) 15=(b.toNat:Int)%16:=by
 have:=b.toNat_lt;rw[show(15:Int)=((15:Nat):Int)from rfl,u8_and_nat _ _ (by omega) (by omega),show(15:Nat)=2^4-1 from rfl,Y2];rfl
theorem and7(b:UInt8):bits .and .u8 (b.toNat:Int) 7=(b.toNat:Int)%8:=by
 have:=b.toNat_lt;rw[show(7:Int)=((7:Nat):Int)from rfl,u8_and_nat _ _ (by omega) (by omega),show(7:Nat)=2^3-1 from rfl,Y2];rfl
theorem dvs(x y p:Nat)(n:Nat)(hp:p=2^n)(hy:y<p)(hx:x*p<1152921504606846976)(hp2:p<1152921504606846976):bits .or .i64 ((x:Int)*(p:Int)) (y:Int)=((x*p+y:Nat):Int):=by
 subst hp;have h:=u64_or_nat (x*2^n) y (by omega) (by omega);have e:(x*2^n ||| y)=x*2^n+y:=by rw[Nat.mul_comm,←Nat.two_pow_add_eq_or_of_lt hy]
 rw[e]at h;rw[←Int.natCast_mul];have h1:(BitVec.ofInt 64 ((x*2^n:Nat):Int) ||| BitVec.ofInt 64 (y:Int)).toNat=x*2^n+y:=by
  rw[BitVec.toNat_or,BitVec.ofInt_natCast,BitVec.ofInt_natCast,BitVec.toNat_ofNat,BitVec.toNat_ofNat,Y0 (by omega),Y0 (by omega),e]
 show IntKind.i64.wrap ((BitVec.ofInt 64 ((x*2^n:Nat):Int) ||| BitVec.ofInt 64 (y:Int)).toNat:Int)=_
 rw[h1,IntKind.wrap_i64];omega
theorem az9(x y:Int)(p:Nat)(n:Nat)(hp:p=2^n)(hx0:0≤x)(hx:x<16777216)(hy0:0≤y)(hy:y<p)(hp2:p<16777216):bits .or .i64 (x*(p:Int)) y=x*(p:Int)+y:=by
 obtain⟨X,rfl⟩:=Int.eq_ofNat_of_zero_le hx0;obtain⟨Y,rfl⟩:=Int.eq_ofNat_of_zero_le hy0;have hX:X<16777216:=by omega
 have hXp:X*p≤16777216*16777216:=Nat.mul_le_mul (by omega) (by omega);rw[dvs X Y p n hp (by omega) (by omega) (by omega)];simp
def DecEnd(d:Nat×Nat):Ending:=.returned (.tuple #[.int .i64 d.1,.int .i64 d.2])
theorem aj8(x m:Int)(c n:Nat)(hx:x=c)(hm:m=n):Ending.returned (.tuple #[.int .i64 x,.int .i64 m])=DecEnd (c,n):=by subst hx;subst hm;rfl
theorem dx1(s:ByteArray)(k:Nat)(w:World)(hk:¬k<s.size):
  Calls Tryz.prog 125 #[.string s,.int .i64 k] w fun e w'=>e=DecEnd (Str.refDec s k)∧∃q,w'=w.drewN q:=by
 have Hr:=kept (Str.refDec_end s k hk);have hk':(s.size:Int)≤k:=by omega
 clear hk;go_enter Tryz.func125,Tryz.ntmps125;go_wp2
 go_ret2
 exact⟨by rw[Hr.out];rfl,0,rfl⟩
theorem cj9(s:ByteArray)(k:Nat)(w:World)(hk:k<s.size)(h:s[k].toNat<128):
  Calls Tryz.prog 125 #[.string s,.int .i64 k] w fun e w'=>e=DecEnd (Str.refDec s k)∧∃q,w'=w.drewN q:=by
 have Hr:=kept (Str.refDec_ascii s k hk h);have Hb:=kept (show((s[k].toNat:Nat):Int)<256 by have:=s[k].toNat_lt;omega);have hk':(k:Int)<s.size:=by omega
 have h':(s[k].toNat:Int)<128:=by omega
 obtain⟨u,hu⟩:∃u:Int,(s[k].toNat:Int)=u:=⟨_,rfl⟩;have hu0:0≤u:=by omega
 have Hu:=kept hu;rw[hu]at h';clear h;go_enter Tryz.func125,Tryz.ntmps125;go_wp2
 go_ret2
 exact⟨by rw[Hr.out];show _=DecEnd _;unfold DecEnd;rw[Hu.out];rfl,0,rfl⟩
theorem djc(s:ByteArray)(k:Nat)(w:World)(hk:k<s.size)(hs:s.size≤1000000000)(h1:194≤s[k].toNat)(h2:s[k].toNat≤223)(hc:Str.inB s (k+1) 128 191=true):
  Calls Tryz.prog 125 #[.string s,.int .i64 k] w fun e w'=>e=DecEnd (Str.refDec s k)∧∃q,w'=w.drewN q:=by
 have Hr:=kept (Str.refDec_two s k hk h1 h2 hc);have Hc:=kept hc;have hk1:k+1<s.size:=(Str.inB_true hc).1;have hg1:=Str.get_lt s (k+1) hk1;have hk':(k:Int)+1<s.size:=by omega
 have a0:=dks s[k];have a1:=aji s[k+1];obtain⟨u0,hu0⟩:∃u:Int,(s[k].toNat:Int)=u:=⟨_,rfl⟩;have Hu0:=kept hu0;have hu00:0≤u0:=by omega
 have hu01:u0<256:=by have:=s[k].toNat_lt;omega
 obtain⟨u1,hu1⟩:∃u:Int,(s[k+1].toNat:Int)=u:=⟨_,rfl⟩;have Hu1:=kept hu1;have hu10:0≤u1:=by omega
 have hu11:u1<256:=by have:=s[k+1].toNat_lt;omega
 have h1':194≤u0:=by omega
 have h2':u0≤223:=by omega
 rw[hu0]at a0;rw[hu1]at a1;have o1:bits .or .i64 ((u0%32)*64) ((u1%64))=(u0%32)*64+(u1%64):=az9 ((u0%32)) ((u1%64)) 64 6 (by decide) (by omega) (by omega) (by omega) (by omega) (by omega);have Hg1:=kept hg1;clear hg1;clear h1 h2 hc;go_enter Tryz.func125,Tryz.ntmps125;go_wp2_with fail;refine(azm _ _ _ _ (k+1) true _ (by omega) (by omega) Hc.out).mono ?_;rintro e w' ⟨rfl,rfl⟩;go_wp2
 go_ret2
 refine⟨?_,0,rfl⟩;rw[Hr.out];refine aj8 _ _ _ _ ?_ rfl;have:=Hu0.out;have:=Hu1.out;have:=Hg1.out;omega
theorem cq5(s:ByteArray)(k:Nat)(w:World)(hk:k<s.size)(hs:s.size≤1000000000)(h1:194≤s[k].toNat)(h2:s[k].toNat≤223)(hc:Str.inB s (k+1) 128 191=false):
  Calls Tryz.prog 125 #[.string s,.int .i64 k] w fun e w'=>e=DecEnd (Str.refDec s k)∧∃q,w'=w.drewN q:=by
 have Hr:=kept (Str.refDec_two_no s k hk h1 h2 hc);have Hc:=kept hc;have hk':(k:Int)<s.size:=by omega
 obtain⟨u0,hu0⟩:∃u:Int,(s[k].toNat:Int)=u:=⟨_,rfl⟩;have Hu0:=kept hu0;have hu00:0≤u0:=by omega
 have hu01:u0<256:=by have:=s[k].toNat_lt;omega
 have h1':194≤u0:=by omega
 have h2':u0≤223:=by omega
 clear h1 h2 hc;go_enter Tryz.func125,Tryz.ntmps125;go_wp2_with fail;refine(azm _ _ _ _ (k+1) false _ (by omega) (by omega) Hc.out).mono ?_;rintro e w' ⟨rfl,rfl⟩;go_wp2
 go_ret2
 exact⟨by rw[Hr.out];rfl,0,rfl⟩
theorem byv(s:ByteArray)(k:Nat)(w:World)(hk:k<s.size)(hs:s.size≤1000000000)(h1:s[k].toNat=224)(hc:Str.inB s (k+1) 160 191=true)(hd:Str.inB s (k+2) 128 191=true):
  Calls Tryz.prog 125 #[.string s,.int .i64 k] w fun e w'=>e=DecEnd (Str.refDec s k)∧∃q,w'=w.drewN q:=by
 have Hr:=kept (Str.refDec_three s k hk 160 191 (by omega) (by omega) (by simp[*]) (by simp[*]) hc hd);have Hc:=kept hc;have Hd:=kept hd;have hk1:k+1<s.size:=(Str.inB_true hc).1;have hg1:=Str.get_lt s (k+1) hk1;have hk2:k+2<s.size:=(Str.inB_true hd).1;have hg2:=Str.get_lt s (k+2) hk2;have hk':(k:Int)+2<s.size:=by omega
 have a0:=dxz s[k];have a1:=aji s[k+1];have a2:=aji s[k+2];obtain⟨u0,hu0⟩:∃u:Int,(s[k].toNat:Int)=u:=⟨_,rfl⟩;have Hu0:=kept hu0;have hu00:0≤u0:=by omega
 have hu01:u0<256:=by have:=s[k].toNat_lt;omega
 obtain⟨u1,hu1⟩:∃u:Int,(s[k+1].toNat:Int)=u:=⟨_,rfl⟩;have Hu1:=kept hu1;have hu10:0≤u1:=by omega
 have hu11:u1<256:=by have:=s[k+1].toNat_lt;omega
 obtain⟨u2,hu2⟩:∃u:Int,(s[k+2].toNat:Int)=u:=⟨_,rfl⟩;have Hu2:=kept hu2;have hu20:0≤u2:=by omega
 have hu21:u2<256:=by have:=s[k+2].toNat_lt;omega
 rw[hu0]at a0;rw[hu1]at a1;rw[hu2]at a2;have h1':u0=224:=by omega
 subst h1';have o1:bits .or .i64 (0) (u1%64*64)=u1%64*64:=by have:=az9 (0) (u1%64*64) 4096 12 (by decide) (by omega) (by omega) (by omega) (by omega) (by omega);simpa using this
 have o2:bits .or .i64 (u1%64*64) (u2%64)=u1%64*64+u2%64:=by
  have:=az9 (0*64+u1%64) (u2%64) 64 6 (by decide) (by omega) (by omega) (by omega) (by omega) (by omega)
  rwa [show(0*64+u1%64)*((64:Nat):Int)=u1%64*64 by omega]at this
 have Hg1:=kept hg1;clear hg1;have Hg2:=kept hg2;clear hg2;clear h1 hc hd;go_enter Tryz.func125,Tryz.ntmps125;go_wp2_with fail;refine(azm _ _ _ _ (k+1) true _ (by omega) (by omega) Hc.out).mono ?_;rintro e w' ⟨rfl,rfl⟩;go_wp2_with fail;refine(azm _ _ _ _ (k+2) true _ (by omega) (by omega) Hd.out).mono ?_;rintro e w' ⟨rfl,rfl⟩;go_wp2;have i1:(0:Int)≤(k:Int)+1:=by omega
 have v1:(k:Int)+1<s.size:=by omega
 have w1:IntKind.i64.wrap ((k:Int)+1)=(k:Int)+1:=IntWalk.i64_in _ (by omega);have n1:((k:Int)+1).toNat=k+1:=by omega
 have i2:(0:Int)≤(k:Int)+2:=by omega
 have v2:(k:Int)+2<s.size:=by omega
 have w2:IntKind.i64.wrap ((k:Int)+2)=(k:Int)+2:=IntWalk.i64_in _ (by omega);have n2:((k:Int)+2).toNat=k+2:=by omega
 have s1:IntKind.i64.wrap (224%16*4096)=224%16*4096:=IntWalk.i64_in _ (by omega);have s2:IntKind.i64.wrap (u1%64*64)=u1%64*64:=IntWalk.i64_in _ (by omega)
 go_region
 clear w1 n1 w2 n2 s1 s2;go_wp2
 go_ret2
 refine⟨?_,_,rfl⟩;rw[Hr.out];refine aj8 _ _ _ _ ?_ rfl;have:=Hu0.out;have:=Hu1.out;have:=Hg1.out;have:=Hu2.out;have:=Hg2.out;omega
theorem ayj(s:ByteArray)(k:Nat)(w:World)(hk:k<s.size)(hs:s.size≤1000000000)(h1:s[k].toNat=224)(hc:Str.inB s (k+1) 160 191=false):
  Calls Tryz.prog 125 #[.string s,.int .i64 k] w fun e w'=>e=DecEnd (Str.refDec s k)∧∃q,w'=w.drewN q:=by
 have Hr:=kept (Str.refDec_three_no s k hk 160 191 (by omega) (by omega) (by simp[*]) (by simp[*]) (.inl hc));have Hc:=kept hc;have hk':(k:Int)<s.size:=by omega
 obtain⟨u0,hu0⟩:∃u:Int,(s[k].toNat:Int)=u:=⟨_,rfl⟩;have Hu0:=kept hu0;have hu00:0≤u0:=by omega
 have hu01:u0<256:=by have:=s[k].toNat_lt;omega
 have h1':u0=224:=by omega
 subst h1';clear h1 hc;go_enter Tryz.func125,Tryz.ntmps125;go_wp2_with fail;refine(azm _ _ _ _ (k+1) false _ (by omega) (by omega) Hc.out).mono ?_;rintro e w' ⟨rfl,rfl⟩;go_wp2
 go_ret2
 exact⟨by rw[Hr.out];rfl,0,rfl⟩
theorem bze(s:ByteArray)(k:Nat)(w:World)(hk:k<s.size)(hs:s.size≤1000000000)(h1:s[k].toNat=224)(hc:Str.inB s (k+1) 160 191=true)(hd:Str.inB s (k+2) 128 191=false):
  Calls Tryz.prog 125 #[.string s,.int .i64 k] w fun e w'=>e=DecEnd (Str.refDec s k)∧∃q,w'=w.drewN q:=by
 have Hr:=kept (Str.refDec_three_no s k hk 160 191 (by omega) (by omega) (by simp[*]) (by simp[*]) (.inr hd));have Hc:=kept hc;have Hd:=kept hd;have hk':(k:Int)<s.size:=by omega
 obtain⟨u0,hu0⟩:∃u:Int,(s[k].toNat:Int)=u:=⟨_,rfl⟩;have Hu0:=kept hu0;have hu00:0≤u0:=by omega
 have hu01:u0<256:=by have:=s[k].toNat_lt;omega
 have h1':u0=224:=by omega
 subst h1';clear h1 hc hd;go_enter Tryz.func125,Tryz.ntmps125;go_wp2_with fail;refine(azm _ _ _ _ (k+1) true _ (by omega) (by omega) Hc.out).mono ?_;rintro e w' ⟨rfl,rfl⟩;go_wp2_with fail;refine(azm _ _ _ _ (k+2) false _ (by omega) (by omega) Hd.out).mono ?_;rintro e w' ⟨rfl,rfl⟩;go_wp2
 go_ret2
 exact⟨by rw[Hr.out];rfl,0,rfl⟩
theorem byj(s:ByteArray)(k:Nat)(w:World)(hk:k<s.size)(hs:s.size≤1000000000)(h1:s[k].toNat=237)(hc:Str.inB s (k+1) 128 159=true)(hd:Str.inB s (k+2) 128 191=true):
  Calls Tryz.prog 125 #[.string s,.int .i64 k] w fun e w'=>e=DecEnd (Str.refDec s k)∧∃q,w'=w.drewN q:=by
 have Hr:=kept (Str.refDec_three s k hk 128 159 (by omega) (by omega) (by simp[*]) (by simp[*]) hc hd);have Hc:=kept hc;have Hd:=kept hd;have hk1:k+1<s.size:=(Str.inB_true hc).1;have hg1:=Str.get_lt s (k+1) hk1;have hk2:k+2<s.size:=(Str.inB_true hd).1;have hg2:=Str.get_lt s (k+2) hk2;have hk':(k:Int)+2<s.size:=by omega
 have a0:=dxz s[k];have a1:=aji s[k+1];have a2:=aji s[k+2];obtain⟨u0,hu0⟩:∃u:Int,(s[k].toNat:Int)=u:=⟨_,rfl⟩;have Hu0:=kept hu0;have hu00:0≤u0:=by omega
 have hu01:u0<256:=by have:=s[k].toNat_lt;omega
 obtain⟨u1,hu1⟩:∃u:Int,(s[k+1].toNat:Int)=u:=⟨_,rfl⟩;have Hu1:=kept hu1;have hu10:0≤u1:=by omega
 have hu11:u1<256:=by have:=s[k+1].toNat_lt;omega
 obtain⟨u2,hu2⟩:∃u:Int,(s[k+2].toNat:Int)=u:=⟨_,rfl⟩;have Hu2:=kept hu2;have hu20:0≤u2:=by omega
 have hu21:u2<256:=by have:=s[k+2].toNat_lt;omega
 rw[hu0]at a0;rw[hu1]at a1;rw[hu2]at a2;have h1':u0=237:=by omega
 subst h1';have o1:bits .or .i64 (53248) (u1%64*64)=53248+u1%64*64:=by have:=az9 (13) (u1%64*64) 4096 12 (by decide) (by omega) (by omega) (by omega) (by omega) (by omega);simpa using this
 have o2:bits .or .i64 (53248+u1%64*64) (u2%64)=53248+u1%64*64+u2%64:=by
  have:=az9 (13*64+u1%64) (u2%64) 64 6 (by decide) (by omega) (by omega) (by omega) (by omega) (by omega)
  rwa [show(13*64+u1%64)*((64:Nat):Int)=53248+u1%64*64 by omega]at this
 have Hg1:=kept hg1;clear hg1;have Hg2:=kept hg2;clear hg2;clear h1 hc hd;go_enter Tryz.func125,Tryz.ntmps125;go_wp2_with fail;refine(azm _ _ _ _ (k+1) true _ (by omega) (by omega) Hc.out).mono ?_;rintro e w' ⟨rfl,rfl⟩;go_wp2_with fail;refine(azm _ _ _ _ (k+2) true _ (by omega) (by omega) Hd.out).mono ?_;rintro e w' ⟨rfl,rfl⟩;go_wp2;have i1:(0:Int)≤(k:Int)+1:=by omega
 have v1:(k:Int)+1<s.size:=by omega
 have w1:IntKind.i64.wrap ((k:Int)+1)=(k:Int)+1:=IntWalk.i64_in _ (by omega);have n1:((k:Int)+1).toNat=k+1:=by omega
 have i2:(0:Int)≤(k:Int)+2:=by omega
 have v2:(k:Int)+2<s.size:=by omega
 have w2:IntKind.i64.wrap ((k:Int)+2)=(k:Int)+2:=IntWalk.i64_in _ (by omega);have n2:((k:Int)+2).toNat=k+2:=by omega
 have s1:IntKind.i64.wrap (237%16*4096)=237%16*4096:=IntWalk.i64_in _ (by omega);have s2:IntKind.i64.wrap (u1%64*64)=u1%64*64:=IntWalk.i64_in _ (by omega)
 go_region
 clear w1 n1 w2 n2 s1 s2;go_wp2
 go_ret2
 refine⟨?_,_,rfl⟩;rw[Hr.out];refine aj8 _ _ _ _ ?_ rfl;have:=Hu0.out;have:=Hu1.out;have:=Hg1.out;have:=Hu2.out;have:=Hg2.out;omega
theorem ayq(s:ByteArray)(k:Nat)(w:World)(hk:k<s.size)(hs:s.size≤1000000000)(h1:s[k].toNat=237)(hc:Str.inB s (k+1) 128 159=false):
  Calls Tryz.prog 125 #[.string s,.int .i64 k] w fun e w'=>e=DecEnd (Str.refDec s k)∧∃q,w'=w.drewN q:=by
 have Hr:=kept (Str.refDec_three_no s k hk 128 159 (by omega) (by omega) (by simp[*]) (by simp[*]) (.inl hc));have Hc:=kept hc;have hk':(k:Int)<s.size:=by omega
 obtain⟨u0,hu0⟩:∃u:Int,(s[k].toNat:Int)=u:=⟨_,rfl⟩;have Hu0:=kept hu0;have hu00:0≤u0:=by omega
 have hu01:u0<256:=by have:=s[k].toNat_lt;omega
 have h1':u0=237:=by omega
 subst h1';clear h1 hc;go_enter Tryz.func125,Tryz.ntmps125;go_wp2_with fail;refine(azm _ _ _ _ (k+1) false _ (by omega) (by omega) Hc.out).mono ?_;rintro e w' ⟨rfl,rfl⟩;go_wp2
 go_ret2
 exact⟨by rw[Hr.out];rfl,0,rfl⟩
theorem awu(s:ByteArray)(k:Nat)(w:World)(hk:k<s.size)(hs:s.size≤1000000000)(h1:s[k].toNat=237)(hc:Str.inB s (k+1) 128 159=true)(hd:Str.inB s (k+2) 128 191=false):
  Calls Tryz.prog 125 #[.string s,.int .i64 k] w fun e w'=>e=DecEnd (Str.refDec s k)∧∃q,w'=w.drewN q:=by
 have Hr:=kept (Str.refDec_three_no s k hk 128 159 (by omega) (by omega) (by simp[*]) (by simp[*]) (.inr hd));have Hc:=kept hc;have Hd:=kept hd;have hk':(k:Int)<s.size:=by omega
 obtain⟨u0,hu0⟩:∃u:Int,(s[k].toNat:Int)=u:=⟨_,rfl⟩;have Hu0:=kept hu0;have hu00:0≤u0:=by omega
 have hu01:u0<256:=by have:=s[k].toNat_lt;omega
 have h1':u0=237:=by omega
 subst h1';clear h1 hc hd;go_enter Tryz.func125,Tryz.ntmps125;go_wp2_with fail;refine(azm _ _ _ _ (k+1) true _ (by omega) (by omega) Hc.out).mono ?_;rintro e w' ⟨rfl,rfl⟩;go_wp2_with fail;refine(azm _ _ _ _ (k+2) false _ (by omega) (by omega) Hd.out).mono ?_;rintro e w' ⟨rfl,rfl⟩;go_wp2
 go_ret2
 exact⟨by rw[Hr.out];rfl,0,rfl⟩
theorem bwd(s:ByteArray)(k:Nat)(w:World)(hk:k<s.size)(hs:s.size≤1000000000)(h1:224≤s[k].toNat)(h2:s[k].toNat≤239)(h3:s[k].toNat≠224)(h4:s[k].toNat≠237)(hc:Str.inB s (k+1) 128 191=true)(hd:Str.inB s (k+2) 128 191=true):
  Calls Tryz.prog 125 #[.string s,.int .i64 k] w fun e w'=>e=DecEnd (Str.refDec s k)∧∃q,w'=w.drewN q:=by
 have Hr:=kept (Str.refDec_three s k hk 128 191 (by omega) (by omega) (by simp[*]) (by simp[*]) hc hd);have Hc:=kept hc;have Hd:=kept hd;have hk1:k+1<s.size:=(Str.inB_true hc).1;have hg1:=Str.get_lt s (k+1) hk1;have hk2:k+2<s.size:=(Str.inB_true hd).1;have hg2:=Str.get_lt s (k+2) hk2;have hk':(k:Int)+2<s.size:=by omega
 have a0:=dxz s[k];have a1:=aji s[k+1];have a2:=aji s[k+2];obtain⟨u0,hu0⟩:∃u:Int,(s[k].toNat:Int)=u:=⟨_,rfl⟩;have Hu0:=kept hu0;have hu00:0≤u0:=by omega
 have hu01:u0<256:=by have:=s[k].toNat_lt;omega
 obtain⟨u1,hu1⟩:∃u:Int,(s[k+1].toNat:Int)=u:=⟨_,rfl⟩;have Hu1:=kept hu1;have hu10:0≤u1:=by omega
 have hu11:u1<256:=by have:=s[k+1].toNat_lt;omega
 obtain⟨u2,hu2⟩:∃u:Int,(s[k+2].toNat:Int)=u:=⟨_,rfl⟩;have Hu2:=kept hu2;have hu20:0≤u2:=by omega
 have hu21:u2<256:=by have:=s[k+2].toNat_lt;omega
 rw[hu0]at a0;rw[hu1]at a1;rw[hu2]at a2;have h1':224≤u0:=by omega
 have h2':u0≤239:=by omega
 have h3':(u0==224)=false:=by simp;omega
 have h4':(u0==237)=false:=by simp;omega
 have h5':¬u0=224:=by omega
 have h6':¬u0=237:=by omega
 have o1:bits .or .i64 (u0%16*4096) (u1%64*64)=u0%16*4096+u1%64*64:=by have:=az9 ((u0%16)) (u1%64*64) 4096 12 (by decide) (by omega) (by omega) (by omega) (by omega) (by omega);simpa using this
 have o2:bits .or .i64 (u0%16*4096+u1%64*64) (u2%64)=u0%16*4096+u1%64*64+u2%64:=by
  have:=az9 ((u0%16)*64+u1%64) (u2%64) 64 6 (by decide) (by omega) (by omega) (by omega) (by omega) (by omega)
  rwa [show((u0%16)*64+u1%64)*((64:Nat):Int)=u0%16*4096+u1%64*64 by omega]at this
 have Hg1:=kept hg1;clear hg1;have Hg2:=kept hg2;clear hg2;clear h1 h2 h3 h4 hc hd;go_enter Tryz.func125,Tryz.ntmps125;go_wp2_with fail;refine(azm _ _ _ _ (k+1) true _ (by omega) (by omega) Hc.out).mono ?_;rintro e w' ⟨rfl,rfl⟩;go_wp2_with fail;refine(azm _ _ _ _ (k+2) true _ (by omega) (by omega) Hd.out).mono ?_;rintro e w' ⟨rfl,rfl⟩;go_wp2;have i1:(0:Int)≤(k:Int)+1:=by omega
 have v1:(k:Int)+1<s.size:=by omega
 have w1:IntKind.i64.wrap ((k:Int)+1)=(k:Int)+1:=IntWalk.i64_in _ (by omega);have n1:((k:Int)+1).toNat=k+1:=by omega
 have i2:(0:Int)≤(k:Int)+2:=by omega
 have v2:(k:Int)+2<s.size:=by omega
 have w2:IntKind.i64.wrap ((k:Int)+2)=(k:Int)+2:=IntWalk.i64_in _ (by omega);have n2:((k:Int)+2).toNat=k+2:=by omega
 have s1:IntKind.i64.wrap (u0%16*4096)=u0%16*4096:=IntWalk.i64_in _ (by omega);have s2:IntKind.i64.wrap (u1%64*64)=u1%64*64:=IntWalk.i64_in _ (by omega)
 go_region
 clear w1 n1 w2 n2 s1 s2;go_wp2
 go_ret2
 refine⟨?_,_,rfl⟩;rw[Hr.out];refine aj8 _ _ _ _ ?_ rfl;have:=Hu0.out;have:=Hu1.out;have:=Hg1.out;have:=Hu2.out;have:=Hg2.out;omega
theorem awq(s:ByteArray)(k:Nat)(w:World)(hk:k<s.size)(hs:s.size≤1000000000)(h1:224≤s[k].toNat)(h2:s[k].toNat≤239)(h3:s[k].toNat≠224)(h4:s[k].toNat≠237)(hc:Str.inB s (k+1) 128 191=false):
  Calls Tryz.prog 125 #[.string s,.int .i64 k] w fun e w'=>e=DecEnd (Str.refDec s k)∧∃q,w'=w.drewN q:=by
 have Hr:=kept (Str.refDec_three_no s k hk 128 191 (by omega) (by omega) (by simp[*]) (by simp[*]) (.inl hc));have Hc:=kept hc;have hk':(k:Int)<s.size:=by omega
 obtain⟨u0,hu0⟩:∃u:Int,(s[k].toNat:Int)=u:=⟨_,rfl⟩;have Hu0:=kept hu0;have hu00:0≤u0:=by omega
 have hu01:u0<256:=by have:=s[k].toNat_lt;omega
 have h1':224≤u0:=by omega
 have h2':u0≤239:=by omega
 have h3':(u0==224)=false:=by simp;omega
 have h4':(u0==237)=false:=by simp;omega
 have h5':¬u0=224:=by omega
 have h6':¬u0=237:=by omega
 clear h1 h2 h3 h4 hc;go_enter Tryz.func125,Tryz.ntmps125;go_wp2_with fail;refine(azm _ _ _ _ (k+1) false _ (by omega) (by omega) Hc.out).mono ?_;rintro e w' ⟨rfl,rfl⟩;go_wp2
 go_ret2
 exact⟨by rw[Hr.out];rfl,0,rfl⟩
theorem ayy(s:ByteArray)(k:Nat)(w:World)(hk:k<s.size)(hs:s.size≤1000000000)(h1:224≤s[k].toNat)(h2:s[k].toNat≤239)(h3:s[k].toNat≠224)(h4:s[k].toNat≠237)(hc:Str.inB s (k+1) 128 191=true)(hd:Str.inB s (k+2) 128 191=false):
  Calls Tryz.prog 125 #[.string s,.int .i64 k] w fun e w'=>e=DecEnd (Str.refDec s k)∧∃q,w'=w.drewN q:=by
 have Hr:=kept (Str.refDec_three_no s k hk 128 191 (by omega) (by omega) (by simp[*]) (by simp[*]) (.inr hd));have Hc:=kept hc;have Hd:=kept hd;have hk':(k:Int)<s.size:=by omega
 obtain⟨u0,hu0⟩:∃u:Int,(s[k].toNat:Int)=u:=⟨_,rfl⟩;have Hu0:=kept hu0;have hu00:0≤u0:=by omega
 have hu01:u0<256:=by have:=s[k].toNat_lt;omega
 have h1':224≤u0:=by omega
 have h2':u0≤239:=by omega
 have h3':(u0==224)=false:=by simp;omega
 have h4':(u0==237)=false:=by simp;omega
 have h5':¬u0=224:=by omega
 have h6':¬u0=237:=by omega
 clear h1 h2 h3 h4 hc hd;go_enter Tryz.func125,Tryz.ntmps125;go_wp2_with fail;refine(azm _ _ _ _ (k+1) true _ (by omega) (by omega) Hc.out).mono ?_;rintro e w' ⟨rfl,rfl⟩;go_wp2_with fail;refine(azm _ _ _ _ (k+2) false _ (by omega) (by omega) Hd.out).mono ?_;rintro e w' ⟨rfl,rfl⟩;go_wp2
 go_ret2
 exact⟨by rw[Hr.out];rfl,0,rfl⟩
theorem cqf(s:ByteArray)(k:Nat)(w:World)(hk:k<s.size)(hs:s.size≤1000000000)(h1:s[k].toNat=240)(hc:Str.inB s (k+1) 144 191=true)(hd:Str.inB s (k+2) 128 191=true)(he:Str.inB s (k+3) 128 191=true):
  Calls Tryz.prog 125 #[.string s,.int .i64 k] w fun e w'=>e=DecEnd (Str.refDec s k)∧∃q,w'=w.drewN q:=by
 have Hr:=kept (Str.refDec_four s k hk 144 191 (by omega) (by omega) (by simp[*]) (by simp[*]) hc hd he);have Hc:=kept hc;have Hd:=kept hd;have He:=kept he;have hk1:k+1<s.size:=(Str.inB_true hc).1;have hg1:=Str.get_lt s (k+1) hk1;have hk2:k+2<s.size:=(Str.inB_true hd).1;have hg2:=Str.get_lt s (k+2) hk2;have hk3:k+3<s.size:=(Str.inB_true he).1;have hg3:=Str.get_lt s (k+3) hk3;have hk':(k:Int)+3<s.size:=by omega
 have a0:=and7 s[k];have a1:=aji s[k+1];have a2:=aji s[k+2];have a3:=aji s[k+3];obtain⟨u0,hu0⟩:∃u:Int,(s[k].toNat:Int)=u:=⟨_,rfl⟩;have Hu0:=kept hu0;have hu00:0≤u0:=by omega
 have hu01:u0<256:=by have:=s[k].toNat_lt;omega
 obtain⟨u1,hu1⟩:∃u:Int,(s[k+1].toNat:Int)=u:=⟨_,rfl⟩;have Hu1:=kept hu1;have hu10:0≤u1:=by omega
 have hu11:u1<256:=by have:=s[k+1].toNat_lt;omega
 obtain⟨u2,hu2⟩:∃u:Int,(s[k+2].toNat:Int)=u:=⟨_,rfl⟩;have Hu2:=kept hu2;have hu20:0≤u2:=by omega
 have hu21:u2<256:=by have:=s[k+2].toNat_lt;omega
 obtain⟨u3,hu3⟩:∃u:Int,(s[k+3].toNat:Int)=u:=⟨_,rfl⟩;have Hu3:=kept hu3;have hu30:0≤u3:=by omega
 have hu31:u3<256:=by have:=s[k+3].toNat_lt;omega
 rw[hu0]at a0;rw[hu1]at a1;rw[hu2]at a2;rw[hu3]at a3;have h1':u0=240:=by omega
 subst h1';have o1:bits .or .i64 (0) (u1%64*4096)=u1%64*4096:=by have:=az9 (0) (u1%64*4096) 262144 18 (by decide) (by omega) (by omega) (by omega) (by omega) (by omega);simpa using this
 have o2:bits .or .i64 (u1%64*4096) (u2%64*64)=u1%64*4096+u2%64*64:=by
  have:=az9 (0*64+u1%64) (u2%64*64) 4096 12 (by decide) (by omega) (by omega) (by omega) (by omega) (by omega)
  rwa [show(0*64+u1%64)*((4096:Nat):Int)=u1%64*4096 by omega]at this
 have o3:bits .or .i64 (u1%64*4096+u2%64*64) (u3%64)=u1%64*4096+u2%64*64+u3%64:=by
  have:=az9 (0*4096+u1%64*64+u2%64) (u3%64) 64 6 (by decide) (by omega) (by omega) (by omega) (by omega) (by omega)
  rwa [show(0*4096+u1%64*64+u2%64)*((64:Nat):Int)=u1%64*4096+u2%64*64 by omega]at this
 have Hg1:=kept hg1;clear hg1;have Hg2:=kept hg2;clear hg2;have Hg3:=kept hg3;clear hg3;clear h1 hc hd he;go_enter Tryz.func125,Tryz.ntmps125;go_wp2_with fail;refine(azm _ _ _ _ (k+1) true _ (by omega) (by omega) Hc.out).mono ?_;rintro e w' ⟨rfl,rfl⟩;go_wp2_with fail;refine(azm _ _ _ _ (k+2) true _ (by omega) (by omega) Hd.out).mono ?_;rintro e w' ⟨rfl,rfl⟩;go_wp2_with fail;refine(azm _ _ _ _ (k+3) true _ (by omega) (by omega) He.out).mono ?_;rintro e w' ⟨rfl,rfl⟩;go_wp2;have i1:(0:Int)≤(k:Int)+1:=by omega
 have v1:(k:Int)+1<s.size:=by omega
 have w1:IntKind.i64.wrap ((k:Int)+1)=(k:Int)+1:=IntWalk.i64_in _ (by omega);have n1:((k:Int)+1).toNat=k+1:=by omega
 have i2:(0:Int)≤(k:Int)+2:=by omega
 have v2:(k:Int)+2<s.size:=by omega
 have w2:IntKind.i64.wrap ((k:Int)+2)=(k:Int)+2:=IntWalk.i64_in _ (by omega);have n2:((k:Int)+2).toNat=k+2:=by omega
 have i3:(0:Int)≤(k:Int)+3:=by omega
 have v3:(k:Int)+3<s.size:=by omega
 have w3:IntKind.i64.wrap ((k:Int)+3)=(k:Int)+3:=IntWalk.i64_in _ (by omega);have n3:((k:Int)+3).toNat=k+3:=by omega
 have s1:IntKind.i64.wrap (240%8*262144)=240%8*262144:=IntWalk.i64_in _ (by omega);have s2:IntKind.i64.wrap (u1%64*4096)=u1%64*4096:=IntWalk.i64_in _ (by omega);have s3:IntKind.i64.wrap (u2%64*64)=u2%64*64:=IntWalk.i64_in _ (by omega)
 go_region
 clear w1 n1 w2 n2 w3 n3 s1 s2 s3;go_wp2
 go_ret2
 refine⟨?_,_,rfl⟩;rw[Hr.out];refine aj8 _ _ _ _ ?_ rfl;have:=Hu0.out;have:=Hu1.out;have:=Hg1.out;have:=Hu2.out;have:=Hg2.out;have:=Hu3.out;have:=Hg3.out;omega
theorem bqa(s:ByteArray)(k:Nat)(w:World)(hk:k<s.size)(hs:s.size≤1000000000)(h1:s[k].toNat=240)(hc:Str.inB s (k+1) 144 191=false):
  Calls Tryz.prog 125 #[.string s,.int .i64 k] w fun e w'=>e=DecEnd (Str.refDec s k)∧∃q,w'=w.drewN q:=by
 have Hr:=kept (Str.refDec_four_no s k hk 144 191 (by omega) (by omega) (by simp[*]) (by simp[*]) (.inl hc));have Hc:=kept hc;have hk':(k:Int)<s.size:=by omega
 obtain⟨u0,hu0⟩:∃u:Int,(s[k].toNat:Int)=u:=⟨_,rfl⟩;have Hu0:=kept hu0;have hu00:0≤u0:=by omega
 have hu01:u0<256:=by have:=s[k].toNat_lt;omega
 have h1':u0=240:=by omega
 subst h1';clear h1 hc;go_enter Tryz.func125,Tryz.ntmps125;go_wp2_with fail;refine(azm _ _ _ _ (k+1) false _ (by omega) (by omega) Hc.out).mono ?_;rintro e w' ⟨rfl,rfl⟩;go_wp2
 go_ret2
 exact⟨by rw[Hr.out];rfl,0,rfl⟩
theorem bz5(s:ByteArray)(k:Nat)(w:World)(hk:k<s.size)(hs:s.size≤1000000000)(h1:s[k].toNat=240)(hc:Str.inB s (k+1) 144 191=true)(hd:Str.inB s (k+2) 128 191=false):
  Calls Tryz.prog 125 #[.string s,.int .i64 k] w fun e w'=>e=DecEnd (Str.refDec s k)∧∃q,w'=w.drewN q:=by
 have Hr:=kept (Str.refDec_four_no s k hk 144 191 (by omega) (by omega) (by simp[*]) (by simp[*]) (.inr (.inl hd)));have Hc:=kept hc;have Hd:=kept hd;have hk':(k:Int)<s.size:=by omega
 obtain⟨u0,hu0⟩:∃u:Int,(s[k].toNat:Int)=u:=⟨_,rfl⟩;have Hu0:=kept hu0;have hu00:0≤u0:=by omega
 have hu01:u0<256:=by have:=s[k].toNat_lt;omega
 have h1':u0=240:=by omega
 subst h1';clear h1 hc hd;go_enter Tryz.func125,Tryz.ntmps125;go_wp2_with fail;refine(azm _ _ _ _ (k+1) true _ (by omega) (by omega) Hc.out).mono ?_;rintro e w' ⟨rfl,rfl⟩;go_wp2_with fail;refine(azm _ _ _ _ (k+2) false _ (by omega) (by omega) Hd.out).mono ?_;rintro e w' ⟨rfl,rfl⟩;go_wp2
 go_ret2
 exact⟨by rw[Hr.out];rfl,0,rfl⟩
theorem bz2(s:ByteArray)(k:Nat)(w:World)(hk:k<s.size)(hs:s.size≤1000000000)(h1:s[k].toNat=240)(hc:Str.inB s (k+1) 144 191=true)(hd:Str.inB s (k+2) 128 191=true)(he:Str.inB s (k+3) 128 191=false):
  Calls Tryz.prog 125 #[.string s,.int .i64 k] w fun e w'=>e=DecEnd (Str.refDec s k)∧∃q,w'=w.drewN q:=by
 have Hr:=kept (Str.refDec_four_no s k hk 144 191 (by omega) (by omega) (by simp[*]) (by simp[*]) (.inr (.inr he)));have Hc:=kept hc;have Hd:=kept hd;have He:=kept he;have hk':(k:Int)<s.size:=by omega
 obtain⟨u0,hu0⟩:∃u:Int,(s[k].toNat:Int)=u:=⟨_,rfl⟩;have Hu0:=kept hu0;have hu00:0≤u0:=by omega
 have hu01:u0<256:=by have:=s[k].toNat_lt;omega
 have h1':u0=240:=by omega
 subst h1';clear h1 hc hd he;go_enter Tryz.func125,Tryz.ntmps125;go_wp2_with fail;refine(azm _ _ _ _ (k+1) true _ (by omega) (by omega) Hc.out).mono ?_;rintro e w' ⟨rfl,rfl⟩;go_wp2_with fail;refine(azm _ _ _ _ (k+2) true _ (by omega) (by omega) Hd.out).mono ?_;rintro e w' ⟨rfl,rfl⟩;go_wp2_with fail;refine(azm _ _ _ _ (k+3) false _ (by omega) (by omega) He.out).mono ?_;rintro e w' ⟨rfl,rfl⟩;go_wp2
 go_ret2
 exact⟨by rw[Hr.out];rfl,0,rfl⟩
theorem cxg(s:ByteArray)(k:Nat)(w:World)(hk:k<s.size)(hs:s.size≤1000000000)(h1:s[k].toNat=244)(hc:Str.inB s (k+1) 128 143=true)(hd:Str.inB s (k+2) 128 191=true)(he:Str.inB s (k+3) 128 191=true):
  Calls Tryz.prog 125 #[.string s,.int .i64 k] w fun e w'=>e=DecEnd (Str.refDec s k)∧∃q,w'=w.drewN q:=by
 have Hr:=kept (Str.refDec_four s k hk 128 143 (by omega) (by omega) (by simp[*]) (by simp[*]) hc hd he);have Hc:=kept hc;have Hd:=kept hd;have He:=kept he;have hk1:k+1<s.size:=(Str.inB_true hc).1;have hg1:=Str.get_lt s (k+1) hk1;have hk2:k+2<s.size:=(Str.inB_true hd).1;have hg2:=Str.get_lt s (k+2) hk2;have hk3:k+3<s.size:=(Str.inB_true he).1;have hg3:=Str.get_lt s (k+3) hk3;have hk':(k:Int)+3<s.size:=by omega
 have a0:=and7 s[k];have a1:=aji s[k+1];have a2:=aji s[k+2];have a3:=aji s[k+3];obtain⟨u0,hu0⟩:∃u:Int,(s[k].toNat:Int)=u:=⟨_,rfl⟩;have Hu0:=kept hu0;have hu00:0≤u0:=by omega
 have hu01:u0<256:=by have:=s[k].toNat_lt;omega
 obtain⟨u1,hu1⟩:∃u:Int,(s[k+1].toNat:Int)=u:=⟨_,rfl⟩;have Hu1:=kept hu1;have hu10:0≤u1:=by omega
 have hu11:u1<256:=by have:=s[k+1].toNat_lt;omega
 obtain⟨u2,hu2⟩:∃u:Int,(s[k+2].toNat:Int)=u:=⟨_,rfl⟩;have Hu2:=kept hu2;have hu20:0≤u2:=by omega
 have hu21:u2<256:=by have:=s[k+2].toNat_lt;omega
 obtain⟨u3,hu3⟩:∃u:Int,(s[k+3].toNat:Int)=u:=⟨_,rfl⟩;have Hu3:=kept hu3;have hu30:0≤u3:=by omega
 have hu31:u3<256:=by have:=s[k+3].toNat_lt;omega
 rw[hu0]at a0;rw[hu1]at a1;rw[hu2]at a2;rw[hu3]at a3;have h1':u0=244:=by omega
 subst h1';have o1:bits .or .i64 (1048576) (u1%64*4096)=1048576+u1%64*4096:=by have:=az9 (4) (u1%64*4096) 262144 18 (by decide) (by omega) (by omega) (by omega) (by omega) (by omega);simpa using this
 have o2:bits .or .i64 (1048576+u1%64*4096) (u2%64*64)=1048576+u1%64*4096+u2%64*64:=by
  have:=az9 (4*64+u1%64) (u2%64*64) 4096 12 (by decide) (by omega) (by omega) (by omega) (by omega) (by omega)
  rwa [show(4*64+u1%64)*((4096:Nat):Int)=1048576+u1%64*4096 by omega]at this
 have o3:bits .or .i64 (1048576+u1%64*4096+u2%64*64) (u3%64)=1048576+u1%64*4096+u2%64*64+u3%64:=by
  have:=az9 (4*4096+u1%64*64+u2%64) (u3%64) 64 6 (by decide) (by omega) (by omega) (by omega) (by omega) (by omega)
  rwa [show(4*4096+u1%64*64+u2%64)*((64:Nat):Int)=1048576+u1%64*4096+u2%64*64 by omega]at this
 have Hg1:=kept hg1;clear hg1;have Hg2:=kept hg2;clear hg2;have Hg3:=kept hg3;clear hg3;clear h1 hc hd he;go_enter Tryz.func125,Tryz.ntmps125;go_wp2_with fail;refine(azm _ _ _ _ (k+1) true _ (by omega) (by omega) Hc.out).mono ?_;rintro e w' ⟨rfl,rfl⟩;go_wp2_with fail;refine(azm _ _ _ _ (k+2) true _ (by omega) (by omega) Hd.out).mono ?_;rintro e w' ⟨rfl,rfl⟩;go_wp2_with fail;refine(azm _ _ _ _ (k+3) true _ (by omega) (by omega) He.out).mono ?_;rintro e w' ⟨rfl,rfl⟩;go_wp2;have i1:(0:Int)≤(k:Int)+1:=by omega
 have v1:(k:Int)+1<s.size:=by omega
 have w1:IntKind.i64.wrap ((k:Int)+1)=(k:Int)+1:=IntWalk.i64_in _ (by omega);have n1:((k:Int)+1).toNat=k+1:=by omega
 have i2:(0:Int)≤(k:Int)+2:=by omega
 have v2:(k:Int)+2<s.size:=by omega
 have w2:IntKind.i64.wrap ((k:Int)+2)=(k:Int)+2:=IntWalk.i64_in _ (by omega);have n2:((k:Int)+2).toNat=k+2:=by omega
 have i3:(0:Int)≤(k:Int)+3:=by omega
 have v3:(k:Int)+3<s.size:=by omega
 have w3:IntKind.i64.wrap ((k:Int)+3)=(k:Int)+3:=IntWalk.i64_in _ (by omega);have n3:((k:Int)+3).toNat=k+3:=by omega
 have s1:IntKind.i64.wrap (244%8*262144)=244%8*262144:=IntWalk.i64_in _ (by omega);have s2:IntKind.i64.wrap (u1%64*4096)=u1%64*4096:=IntWalk.i64_in _ (by omega);have s3:IntKind.i64.wrap (u2%64*64)=u2%64*64:=IntWalk.i64_in _ (by omega)
 go_region
 clear w1 n1 w2 n2 w3 n3 s1 s2 s3;go_wp2
 go_ret2
 refine⟨?_,_,rfl⟩;rw[Hr.out];refine aj8 _ _ _ _ ?_ rfl;have:=Hu0.out;have:=Hu1.out;have:=Hg1.out;have:=Hu2.out;have:=Hg2.out;have:=Hu3.out;have:=Hg3.out;omega
theorem bzy(s:ByteArray)(k:Nat)(w:World)(hk:k<s.size)(hs:s.size≤1000000000)(h1:s[k].toNat=244)(hc:Str.inB s (k+1) 128 143=false):
  Calls Tryz.prog 125 #[.string s,.int .i64 k] w fun e w'=>e=DecEnd (Str.refDec s k)∧∃q,w'=w.drewN q:=by
 have Hr:=kept (Str.refDec_four_no s k hk 128 143 (by omega) (by omega) (by simp[*]) (by simp[*]) (.inl hc));have Hc:=kept hc;have hk':(k:Int)<s.size:=by omega
 obtain⟨u0,hu0⟩:∃u:Int,(s[k].toNat:Int)=u:=⟨_,rfl⟩;have Hu0:=kept hu0;have hu00:0≤u0:=by omega
 have hu01:u0<256:=by have:=s[k].toNat_lt;omega
 have h1':u0=244:=by omega
 subst h1';clear h1 hc;go_enter Tryz.func125,Tryz.ntmps125;go_wp2_with fail;refine(azm _ _ _ _ (k+1) false _ (by omega) (by omega) Hc.out).mono ?_;rintro e w' ⟨rfl,rfl⟩;go_wp2
 go_ret2
 exact⟨by rw[Hr.out];rfl,0,rfl⟩
theorem bz0(s:ByteArray)(k:Nat)(w:World)(hk:k<s.size)(hs:s.size≤1000000000)(h1:s[k].toNat=244)(hc:Str.inB s (k+1) 128 143=true)(hd:Str.inB s (k+2) 128 191=false):
  Calls Tryz.prog 125 #[.string s,.int .i64 k] w fun e w'=>e=DecEnd (Str.refDec s k)∧∃q,w'=w.drewN q:=by
 have Hr:=kept (Str.refDec_four_no s k hk 128 143 (by omega) (by omega) (by simp[*]) (by simp[*]) (.inr (.inl hd)));have Hc:=kept hc;have Hd:=kept hd;have hk':(k:Int)<s.size:=by omega
 obtain⟨u0,hu0⟩:∃u:Int,(s[k].toNat:Int)=u:=⟨_,rfl⟩;have Hu0:=kept hu0;have hu00:0≤u0:=by omega
 have hu01:u0<256:=by have:=s[k].toNat_lt;omega
 have h1':u0=244:=by omega
 subst h1';clear h1 hc hd;go_enter Tryz.func125,Tryz.ntmps125;go_wp2_with fail;refine(azm _ _ _ _ (k+1) true _ (by omega) (by omega) Hc.out).mono ?_;rintro e w' ⟨rfl,rfl⟩;go_wp2_with fail;refine(azm _ _ _ _ (k+2) false _ (by omega) (by omega) Hd.out).mono ?_;rintro e w' ⟨rfl,rfl⟩;go_wp2
 go_ret2
 exact⟨by rw[Hr.out];rfl,0,rfl⟩
theorem bz9(s:ByteArray)(k:Nat)(w:World)(hk:k<s.size)(hs:s.size≤1000000000)(h1:s[k].toNat=244)(hc:Str.inB s (k+1) 128 143=true)(hd:Str.inB s (k+2) 128 191=true)(he:Str.inB s (k+3) 128 191=false):
  Calls Tryz.prog 125 #[.string s,.int .i64 k] w fun e w'=>e=DecEnd (Str.refDec s k)∧∃q,w'=w.drewN q:=by
 have Hr:=kept (Str.refDec_four_no s k hk 128 143 (by omega) (by omega) (by simp[*]) (by simp[*]) (.inr (.inr he)));have Hc:=kept hc;have Hd:=kept hd;have He:=kept he;have hk':(k:Int)<s.size:=by omega
 obtain⟨u0,hu0⟩:∃u:Int,(s[k].toNat:Int)=u:=⟨_,rfl⟩;have Hu0:=kept hu0;have hu00:0≤u0:=by omega
 have hu01:u0<256:=by have:=s[k].toNat_lt;omega
 have h1':u0=244:=by omega
 subst h1';clear h1 hc hd he;go_enter Tryz.func125,Tryz.ntmps125;go_wp2_with fail;refine(azm _ _ _ _ (k+1) true _ (by omega) (by omega) Hc.out).mono ?_;rintro e w' ⟨rfl,rfl⟩;go_wp2_with fail;refine(azm _ _ _ _ (k+2) true _ (by omega) (by omega) Hd.out).mono ?_;rintro e w' ⟨rfl,rfl⟩;go_wp2_with fail;refine(azm _ _ _ _ (k+3) false _ (by omega) (by omega) He.out).mono ?_;rintro e w' ⟨rfl,rfl⟩;go_wp2
 go_ret2
 exact⟨by rw[Hr.out];rfl,0,rfl⟩
theorem cxf(s:ByteArray)(k:Nat)(w:World)(hk:k<s.size)(hs:s.size≤1000000000)(h1:240≤s[k].toNat)(h2:s[k].toNat≤244)(h3:s[k].toNat≠240)(h4:s[k].toNat≠244)(hc:Str.inB s (k+1) 128 191=true)(hd:Str.inB s (k+2) 128 191=true)(he:Str.inB s (k+3) 128 191=true):
  Calls Tryz.prog 125 #[.string s,.int .i64 k] w fun e w'=>e=DecEnd (Str.refDec s k)∧∃q,w'=w.drewN q:=by
 have Hr:=kept (Str.refDec_four s k hk 128 191 (by omega) (by omega) (by simp[*]) (by simp[*]) hc hd he);have Hc:=kept hc;have Hd:=kept hd;have He:=kept he;have hk1:k+1<s.size:=(Str.inB_true hc).1;have hg1:=Str.get_lt s (k+1) hk1;have hk2:k+2<s.size:=(Str.inB_true hd).1;have hg2:=Str.get_lt s (k+2) hk2;have hk3:k+3<s.size:=(Str.inB_true he).1;have hg3:=Str.get_lt s (k+3) hk3;have hk':(k:Int)+3<s.size:=by omega
 have a0:=and7 s[k];have a1:=aji s[k+1];have a2:=aji s[k+2];have a3:=aji s[k+3];obtain⟨u0,hu0⟩:∃u:Int,(s[k].toNat:Int)=u:=⟨_,rfl⟩;have Hu0:=kept hu0;have hu00:0≤u0:=by omega
 have hu01:u0<256:=by have:=s[k].toNat_lt;omega
 obtain⟨u1,hu1⟩:∃u:Int,(s[k+1].toNat:Int)=u:=⟨_,rfl⟩;have Hu1:=kept hu1;have hu10:0≤u1:=by omega
 have hu11:u1<256:=by have:=s[k+1].toNat_lt;omega
 obtain⟨u2,hu2⟩:∃u:Int,(s[k+2].toNat:Int)=u:=⟨_,rfl⟩;have Hu2:=kept hu2;have hu20:0≤u2:=by omega
 have hu21:u2<256:=by have:=s[k+2].toNat_lt;omega
 obtain⟨u3,hu3⟩:∃u:Int,(s[k+3].toNat:Int)=u:=⟨_,rfl⟩;have Hu3:=kept hu3;have hu30:0≤u3:=by omega
 have hu31:u3<256:=by have:=s[k+3].toNat_lt;omega
 rw[hu0]at a0;rw[hu1]at a1;rw[hu2]at a2;rw[hu3]at a3;have h1':240≤u0:=by omega
 have h2':u0≤244:=by omega
 have h3':(u0==240)=false:=by simp;omega
 have h4':(u0==244)=false:=by simp;omega
 have h5':¬u0=240:=by omega
 have h6':¬u0=244:=by omega
 have o1:bits .or .i64 (u0%8*262144) (u1%64*4096)=u0%8*262144+u1%64*4096:=by have:=az9 ((u0%8)) (u1%64*4096) 262144 18 (by decide) (by omega) (by omega) (by omega) (by omega) (by omega);simpa using this
 have o2:bits .or .i64 (u0%8*262144+u1%64*4096) (u2%64*64)=u0%8*262144+u1%64*4096+u2%64*64:=by
  have:=az9 ((u0%8)*64+u1%64) (u2%64*64) 4096 12 (by decide) (by omega) (by omega) (by omega) (by omega) (by omega)
  rwa [show((u0%8)*64+u1%64)*((4096:Nat):Int)=u0%8*262144+u1%64*4096 by omega]at this
 have o3:bits .or .i64 (u0%8*262144+u1%64*4096+u2%64*64) (u3%64)=u0%8*262144+u1%64*4096+u2%64*64+u3%64:=by
  have:=az9 ((u0%8)*4096+u1%64*64+u2%64) (u3%64) 64 6 (by decide) (by omega) (by omega) (by omega) (by omega) (by omega)
  rwa [show((u0%8)*4096+u1%64*64+u2%64)*((64:Nat):Int)=u0%8*262144+u1%64*4096+u2%64*64 by omega]at this
 have Hg1:=kept hg1;clear hg1;have Hg2:=kept hg2;clear hg2;have Hg3:=kept hg3;clear hg3;clear h1 h2 h3 h4 hc hd he;go_enter Tryz.func125,Tryz.ntmps125;go_wp2_with fail;refine(azm _ _ _ _ (k+1) true _ (by omega) (by omega) Hc.out).mono ?_;rintro e w' ⟨rfl,rfl⟩;go_wp2_with fail;refine(azm _ _ _ _ (k+2) true _ (by omega) (by omega) Hd.out).mono ?_;rintro e w' ⟨rfl,rfl⟩;go_wp2_with fail;refine(azm _ _ _ _ (k+3) true _ (by omega) (by omega) He.out).mono ?_;rintro e w' ⟨rfl,rfl⟩;go_wp2;have i1:(0:Int)≤(k:Int)+1:=by omega
 have v1:(k:Int)+1<s.size:=by omega
 have w1:IntKind.i64.wrap ((k:Int)+1)=(k:Int)+1:=IntWalk.i64_in _ (by omega);have n1:((k:Int)+1).toNat=k+1:=by omega
 have i2:(0:Int)≤(k:Int)+2:=by omega
 have v2:(k:Int)+2<s.size:=by omega
 have w2:IntKind.i64.wrap ((k:Int)+2)=(k:Int)+2:=IntWalk.i64_in _ (by omega);have n2:((k:Int)+2).toNat=k+2:=by omega
 have i3:(0:Int)≤(k:Int)+3:=by omega
 have v3:(k:Int)+3<s.size:=by omega
 have w3:IntKind.i64.wrap ((k:Int)+3)=(k:Int)+3:=IntWalk.i64_in _ (by omega);have n3:((k:Int)+3).toNat=k+3:=by omega
 have s1:IntKind.i64.wrap (u0%8*262144)=u0%8*262144:=IntWalk.i64_in _ (by omega);have s2:IntKind.i64.wrap (u1%64*4096)=u1%64*4096:=IntWalk.i64_in _ (by omega);have s3:IntKind.i64.wrap (u2%64*64)=u2%64*64:=IntWalk.i64_in _ (by omega)
 go_region
 clear w1 n1 w2 n2 w3 n3 s1 s2 s3;go_wp2
 go_ret2
 refine⟨?_,_,rfl⟩;rw[Hr.out];refine aj8 _ _ _ _ ?_ rfl;have:=Hu0.out;have:=Hu1.out;have:=Hg1.out;have:=Hu2.out;have:=Hg2.out;have:=Hu3.out;have:=Hg3.out;omega
theorem bz4(s:ByteArray)(k:Nat)(w:World)(hk:k<s.size)(hs:s.size≤1000000000)(h1:240≤s[k].toNat)(h2:s[k].toNat≤244)(h3:s[k].toNat≠240)(h4:s[k].toNat≠244)(hc:Str.inB s (k+1) 128 191=false):
  Calls Tryz.prog 125 #[.string s,.int .i64 k] w fun e w'=>e=DecEnd (Str.refDec s k)∧∃q,w'=w.drewN q:=by
 have Hr:=kept (Str.refDec_four_no s k hk 128 191 (by omega) (by omega) (by simp[*]) (by simp[*]) (.inl hc));have Hc:=kept hc;have hk':(k:Int)<s.size:=by omega
 obtain⟨u0,hu0⟩:∃u:Int,(s[k].toNat:Int)=u:=⟨_,rfl⟩;have Hu0:=kept hu0;have hu00:0≤u0:=by omega
 have hu01:u0<256:=by have:=s[k].toNat_lt;omega
 have h1':240≤u0:=by omega
 have h2':u0≤244:=by omega
 have h3':(u0==240)=false:=by simp;omega
 have h4':(u0==244)=false:=by simp;omega
 have h5':¬u0=240:=by omega
 have h6':¬u0=244:=by omega
 clear h1 h2 h3 h4 hc;go_enter Tryz.func125,Tryz.ntmps125;go_wp2_with fail;refine(azm _ _ _ _ (k+1) false _ (by omega) (by omega) Hc.out).mono ?_;rintro e w' ⟨rfl,rfl⟩;go_wp2
 go_ret2
 exact⟨by rw[Hr.out];rfl,0,rfl⟩
theorem bzz(s:ByteArray)(k:Nat)(w:World)(hk:k<s.size)(hs:s.size≤1000000000)(h1:240≤s[k].toNat)(h2:s[k].toNat≤244)(h3:s[k].toNat≠240)(h4:s[k].toNat≠244)(hc:Str.inB s (k+1) 128 191=true)(hd:Str.inB s (k+2) 128 191=false):
  Calls Tryz.prog 125 #[.string s,.int .i64 k] w fun e w'=>e=DecEnd (Str.refDec s k)∧∃q,w'=w.drewN q:=by
 have Hr:=kept (Str.refDec_four_no s k hk 128 191 (by omega) (by omega) (by simp[*]) (by simp[*]) (.inr (.inl hd)));have Hc:=kept hc;have Hd:=kept hd;have hk':(k:Int)<s.size:=by omega
 obtain⟨u0,hu0⟩:∃u:Int,(s[k].toNat:Int)=u:=⟨_,rfl⟩;have Hu0:=kept hu0;have hu00:0≤u0:=by omega
 have hu01:u0<256:=by have:=s[k].toNat_lt;omega
 have h1':240≤u0:=by omega
 have h2':u0≤244:=by omega
 have h3':(u0==240)=false:=by simp;omega
 have h4':(u0==244)=false:=by simp;omega
 have h5':¬u0=240:=by omega
 have h6':¬u0=244:=by omega
 clear h1 h2 h3 h4 hc hd;go_enter Tryz.func125,Tryz.ntmps125;go_wp2_with fail;refine(azm _ _ _ _ (k+1) true _ (by omega) (by omega) Hc.out).mono ?_;rintro e w' ⟨rfl,rfl⟩;go_wp2_with fail;refine(azm _ _ _ _ (k+2) false _ (by omega) (by omega) Hd.out).mono ?_;rintro e w' ⟨rfl,rfl⟩;go_wp2
 go_ret2
 exact⟨by rw[Hr.out];rfl,0,rfl⟩
theorem bz8(s:ByteArray)(k:Nat)(w:World)(hk:k<s.size)(hs:s.size≤1000000000)(h1:240≤s[k].toNat)(h2:s[k].toNat≤244)(h3:s[k].toNat≠240)(h4:s[k].toNat≠244)(hc:Str.inB s (k+1) 128 191=true)(hd:Str.inB s (k+2) 128 191=true)(he:Str.inB s (k+3) 128 191=false):
  Calls Tryz.prog 125 #[.string s,.int .i64 k] w fun e w'=>e=DecEnd (Str.refDec s k)∧∃q,w'=w.drewN q:=by
 have Hr:=kept (Str.refDec_four_no s k hk 128 191 (by omega) (by omega) (by simp[*]) (by simp[*]) (.inr (.inr he)));have Hc:=kept hc;have Hd:=kept hd;have He:=kept he;have hk':(k:Int)<s.size:=by omega
 obtain⟨u0,hu0⟩:∃u:Int,(s[k].toNat:Int)=u:=⟨_,rfl⟩;have Hu0:=kept hu0;have hu00:0≤u0:=by omega
 have hu01:u0<256:=by have:=s[k].toNat_lt;omega
 have h1':240≤u0:=by omega
 have h2':u0≤244:=by omega
 have h3':(u0==240)=false:=by simp;omega
 have h4':(u0==244)=false:=by simp;omega
 have h5':¬u0=240:=by omega
 have h6':¬u0=244:=by omega
 clear h1 h2 h3 h4 hc hd he;go_enter Tryz.func125,Tryz.ntmps125;go_wp2_with fail;refine(azm _ _ _ _ (k+1) true _ (by omega) (by omega) Hc.out).mono ?_;rintro e w' ⟨rfl,rfl⟩;go_wp2_with fail;refine(azm _ _ _ _ (k+2) true _ (by omega) (by omega) Hd.out).mono ?_;rintro e w' ⟨rfl,rfl⟩;go_wp2_with fail;refine(azm _ _ _ _ (k+3) false _ (by omega) (by omega) He.out).mono ?_;rintro e w' ⟨rfl,rfl⟩;go_wp2
 go_ret2
 exact⟨by rw[Hr.out];rfl,0,rfl⟩
theorem cw0(s:ByteArray)(k:Nat)(w:World)(hk:k<s.size)(h1:128≤s[k].toNat)(h2:s[k].toNat<194):
  Calls Tryz.prog 125 #[.string s,.int .i64 k] w fun e w'=>e=DecEnd (Str.refDec s k)∧∃q,w'=w.drewN q:=by
 have Hr:=kept (Str.refDec_lead s k hk (.inl ⟨h1,h2⟩));have hk':(k:Int)<s.size:=by omega
 obtain⟨u0,hu0⟩:∃u:Int,(s[k].toNat:Int)=u:=⟨_,rfl⟩;have Hu0:=kept hu0;have hu00:0≤u0:=by omega
 have hu01:u0<256:=by have:=s[k].toNat_lt;omega
 have h1':128≤u0:=by omega
 have h2':u0<194:=by omega
 clear h1 h2;go_enter Tryz.func125,Tryz.ntmps125;go_wp2
 go_ret2
 exact⟨by rw[Hr.out];rfl,0,rfl⟩
theorem cki(s:ByteArray)(k:Nat)(w:World)(hk:k<s.size)(h1:245≤s[k].toNat):
  Calls Tryz.prog 125 #[.string s,.int .i64 k] w fun e w'=>e=DecEnd (Str.refDec s k)∧∃q,w'=w.drewN q:=by
 have Hr:=kept (Str.refDec_lead s k hk (.inr h1));have hk':(k:Int)<s.size:=by omega
 obtain⟨u0,hu0⟩:∃u:Int,(s[k].toNat:Int)=u:=⟨_,rfl⟩;have Hu0:=kept hu0;have hu00:0≤u0:=by omega
 have hu01:u0<256:=by have:=s[k].toNat_lt;omega
 have h1':245≤u0:=by omega
 clear h1;go_enter Tryz.func125,Tryz.ntmps125;go_wp2
 go_ret2
 exact⟨by rw[Hr.out];rfl,0,rfl⟩
theorem azs(b:Bool):b=true∨b=false:=by cases b<;>simp
theorem decode_any(s:ByteArray)(k:Nat)(w:World)(hs:s.size≤1000000000):
  Calls Tryz.prog 125 #[.string s,.int .i64 k] w fun e w'=>e=DecEnd (Str.refDec s k)∧∃q,w'=w.drewN q:=by
 by_cases hk:k<s.size
 ·have hb:=s[k].toNat_lt;by_cases h1:s[k].toNat<128
  ·exact cj9 s k w hk h1
  by_cases h2:s[k].toNat<194
  ·exact cw0 s k w hk (by omega) h2
  by_cases h3:s[k].toNat≤223
  ·rcases azs (Str.inB s (k+1) 128 191)with hc|hc
   ·exact djc s k w hk hs (by omega) h3 hc
   ·exact cq5 s k w hk hs (by omega) h3 hc
  by_cases h4:s[k].toNat≤239
  ·by_cases ha:s[k].toNat=224
   ·rcases azs (Str.inB s (k+1) 160 191)with hc|hc
    ·rcases azs (Str.inB s (k+2) 128 191)with hd|hd
     ·exact byv s k w hk hs ha hc hd
     ·exact bze s k w hk hs ha hc hd
    ·exact ayj s k w hk hs ha hc
   ·by_cases hbb:s[k].toNat=237
    ·rcases azs (Str.inB s (k+1) 128 159)with hc|hc
     ·rcases azs (Str.inB s (k+2) 128 191)with hd|hd
      ·exact byj s k w hk hs hbb hc hd
      ·exact awu s k w hk hs hbb hc hd
     ·exact ayq s k w hk hs hbb hc
    ·rcases azs (Str.inB s (k+1) 128 191)with hc|hc
     ·rcases azs (Str.inB s (k+2) 128 191)with hd|hd
      ·exact bwd s k w hk hs (by omega) h4 ha hbb hc hd
      ·exact ayy s k w hk hs (by omega) h4 ha hbb hc hd
     ·exact awq s k w hk hs (by omega) h4 ha hbb hc
  by_cases h5:s[k].toNat≤244
  ·by_cases ha:s[k].toNat=240
   ·rcases azs (Str.inB s (k+1) 144 191)with hc|hc
    ·rcases azs (Str.inB s (k+2) 128 191)with hd|hd
     ·rcases azs (Str.inB s (k+3) 128 191)with he|he
      ·exact cqf s k w hk hs ha hc hd he
      ·exact bz2 s k w hk hs ha hc hd he
     ·exact bz5 s k w hk hs ha hc hd
    ·exact bqa s k w hk hs ha hc
   ·by_cases hbb:s[k].toNat=244
    ·rcases azs (Str.inB s (k+1) 128 143)with hc|hc
     ·rcases azs (Str.inB s (k+2) 128 191)with hd|hd
      ·rcases azs (Str.inB s (k+3) 128 191)with he|he
       ·exact cxg s k w hk hs hbb hc hd he
       ·exact bz9 s k w hk hs hbb hc hd he
      ·exact bz0 s k w hk hs hbb hc hd
     ·exact bzy s k w hk hs hbb hc
    ·rcases azs (Str.inB s (k+1) 128 191)with hc|hc
     ·rcases azs (Str.inB s (k+2) 128 191)with hd|hd
      ·rcases azs (Str.inB s (k+3) 128 191)with he|he
       ·exact cxf s k w hk hs (by omega) h5 ha hbb hc hd he
       ·exact bz8 s k w hk hs (by omega) h5 ha hbb hc hd he
      ·exact bzz s k w hk hs (by omega) h5 ha hbb hc hd
     ·exact bz4 s k w hk hs (by omega) h5 ha hbb hc
  exact cki s k w hk (by omega)
 ·exact dx1 s k w hk
theorem aqp(s:ByteArray)(k c n:Nat)(w:World)(hs:s.size≤1000000000)(h:Str.refDec s k=(c,n)):
  Calls Tryz.prog 125 #[.string s,.int .i64 k] w fun e w'=>e=.returned (.tuple #[.int .i64 c,.int .i64 n])∧Below w.heap.size w w':=by
 refine(decode_any s k w hs).mono fun e w' ⟨he,q,hw⟩=>?_
 subst hw;exact⟨by rw[he,h];rfl,below_drewN (Below.refl _ _) _⟩
theorem akx(s:ByteArray)(w:World)(hs:s.size≤2000000):
  Calls Tryz.prog 80 #[.string s] w fun e w'=>e=.returned (.bool (Str.valid s.data.toList))∧Below w.heap.size w w':=by
 by_cases h4:s.size≤4096
 ·have Hv:=kept (show Str.valid s.data.toList=Lib.validD s.data.toList by simp[Str.valid,h4]);go_enter Tryz.func80,Tryz.ntmps80;go_wp2
  go_loopw [3] (fun i wr=>∃k:Nat,k≤s.size∧i=.int .i64 k∧Lib.validD (s.data.toList.drop k)=Lib.validD s.data.toList∧Below w.heap.size w wr) (fun i _=>s.size-(intOf i).toNat)
  case atStart=>exact⟨0,by omega,rfl,rfl,Below.refl _ _⟩
  case round=>
   obtain⟨k,hk,rfl,hval,hbel⟩:=hrel;have Hval:=kept hval;have Hl:=kept hbel;clear hval hbel;by_cases hlt:k<s.size
   ·have hlt':(k:Int)<s.size:=by omega
    have Hst:=kept (Str.valid_at s k hlt);have hwd:=Str.dec_width s k hlt;generalize hd:Utf8.decode s k=d at Hst hwd;obtain⟨c,n⟩:=d;rcases Str.refDec_cases s k hlt with⟨hb,he⟩|⟨hb,he⟩
    ·have He:=kept he;rw[hd]at hb;have Hf:=kept (show Lib.validD s.data.toList=false by rw[←Hval.out,Hst.out,if_pos hb]);clear hb he hd hwd;go_wp2_with fail;refine(aqp _ _ 0 0 _ (by omega) He.out).mono ?_;rintro e w1 ⟨rfl,b1⟩;have B1:=kept b1;clear b1;go_wp2
     go_ret
     exact⟨az6 (by rw[Hv.out,Hf.out]),bthen Hl.out B1.out⟩
    ·rw[hd]at hb he;have He:=kept he;have Hf:=kept (show Lib.validD (s.data.toList.drop (k+n))=Lib.validD s.data.toList by rw[←Hval.out,Hst.out,if_neg hb]);have hw1:1≤n:=hwd.1;have hw2:(k:Int)+n≤s.size:=by have:=hwd.2;simp only at this;omega
     have hnz:((n:Int)==0)=false:=by simp;omega
     have hnz2:¬(n:Int)=0:=by omega
     clear hb he hd hwd;go_wp2_with fail;refine(aqp _ _ c n _ (by omega) He.out).mono ?_;rintro e w1 ⟨rfl,b1⟩;have B1:=kept b1;clear b1;go_wp2
     go_roundw
     case rel=>exact⟨k+n,by omega,by go_num,Hf.out,bthen Hl.out B1.out⟩
     case measure=>simp[intOf];omega
   ·have Hf:=kept (show Lib.validD s.data.toList=true by rw[←Hval.out,Zt (by simp;omega)];rfl);go_wp2
    go_ret
    exact⟨az6 (by rw[Hv.out,Hf.out]),Hl.out⟩
 ·have Hv:=kept (show Str.valid s.data.toList=false by simp[Str.valid];omega);go_enter Tryz.func80,Tryz.ntmps80;go_wp2
  go_ret
  exact⟨az6 Hv.out.symm,Below.refl _ _⟩
theorem bva(s:ByteArray)(w:World)(hs:s.size≤2000000)(g:Lib.Utf8Tabs 0 1 w):
  Calls Tryz.prog 53 #[.string s] w fun e w'=>e=.returned (.bool (Str.valid s.data.toList))∧Below w.heap.size w w':=by
 by_cases h4:s.size≤4096
 ·have Hv:=kept (show Str.valid s.data.toList=Lib.validD s.data.toList by simp[Str.valid,h4]);have G:=kept g;clear g;go_enter Tryz.func53,Tryz.ntmps53;go_wp2_with fail;refine(Tryz.utf8_ValidString s _ (by omega) G.out).mono ?_;rintro e w1 ⟨rfl,b1⟩;have B1:=kept b1;clear b1;go_wp2
  go_ret
  exact⟨az6 Hv.out.symm,B1.out⟩
 ·have Hv:=kept (show Str.valid s.data.toList=false by simp[Str.valid];omega);go_enter Tryz.func53,Tryz.ntmps53;go_wp2
  go_ret
  exact⟨az6 Hv.out.symm,Below.refl _ _⟩
theorem dqh(s:List UInt8)(w:World)(g:Lib.Utf8Tabs 0 1 w):
  Calls Tryz.prog 137 #[.string ⟨s.toArray⟩] w fun e w'=>e=.returned (.int .i64 (Val.textZ s))∧Below w.heap.size w w':=by
 by_cases h:4096<s.length
 ·have h':(4096:Int)<s.length:=by omega
  have HR:=kept (show(3:Int)=Val.textZ s by unfold Val.textZ;rw[if_pos h]);clear h g;go_enter Tryz.func137,Tryz.ntmps137;go_wp2
  go_ret
  exact⟨axp HR.out,Below.refl _ _⟩
 ·have h':¬(4096:Int)<s.length:=by omega
  have Hv:=kept (bva ⟨s.toArray⟩ w (by rw[size_mk];omega) g);rw[show(⟨s.toArray⟩:ByteArray).data.toList=s from rfl]at Hv;have HR:=kept (show(if Str.valid s then(0:Int)else 1)=Val.textZ s by unfold Val.textZ;rw[if_neg h]);clear h g;rcases azs (Str.valid s)with hv|hv;all_goals
   rw[hv]at Hv HR;clear hv;go_enter Tryz.func137,Tryz.ntmps137;go_wp2_with fail;(with_reducible refine(Hv.out).mono ?_);rintro e w1 ⟨rfl,b1⟩
   have B1:=kept b1;clear b1;go_wp2
   go_ret
   exact⟨axp HR.out,B1.out⟩
theorem bwk(s:List UInt8)(w:World):
  Calls Tryz.prog 191 #[.string ⟨s.toArray⟩] w fun e w'=>e=.returned (.int .i64 (Val.textZ s))∧Below w.heap.size w w':=by
 by_cases h:4096<s.length
 ·have h':(4096:Int)<s.length:=by omega
  have HR:=kept (show(3:Int)=Val.textZ s by unfold Val.textZ;rw[if_pos h]);clear h;go_enter Tryz.func191,Tryz.ntmps191;go_wp2
  go_ret
  exact⟨axp HR.out,Below.refl _ _⟩
 ·have h':¬(4096:Int)<s.length:=by omega
  have Hv:=kept (akx ⟨s.toArray⟩ w (by rw[size_mk];omega));rw[show(⟨s.toArray⟩:ByteArray).data.toList=s from rfl]at Hv;have HR:=kept (show(if Str.valid s then(0:Int)else 1)=Val.textZ s by unfold Val.textZ;rw[if_neg h]);clear h;rcases azs (Str.valid s)with hv|hv;all_goals
   rw[hv]at Hv HR;clear hv;go_enter Tryz.func191,Tryz.ntmps191;go_wp2_with fail;(with_reducible refine(Hv.out).mono ?_);rintro e w1 ⟨rfl,b1⟩
   have B1:=kept b1;clear b1;go_wp2
   go_ret
   exact⟨axp HR.out,B1.out⟩
theorem cqz(k n:Int)(s:List UInt8)(a b:Option Addr)(ni ca nk cb:Nat)(w:World):
  Calls Tryz.prog 136 #[.agg #[.int .i64 k,.int .i64 n,.string ⟨s.toArray⟩,.slice a ni ca,.slice b nk cb]] w fun e w'=>e=.returned (.bool (Val.shapedB k n s ni nk))∧Below w.heap.size w w':=by
 obtain⟨R,hR⟩:=Ex (Val.shapedB k n s ni nk);rw[hR];have HR:=kept hR;clear hR;go_enter Tryz.func136,Tryz.ntmps136;go_wp2;all_goals go_ret
 all_goals refine⟨az6 ?_,ball w _⟩
 all_goals rw[←HR.out]
 all_goals unfold Val.shapedB
 all_goals (try simp only[ZC,Zw,Y5,ne_eq,ZP,YW,Zf,Zap,ZD,YU,bne_eq_false_iff_eq]at *)
 all_goals (rw[Z4];simp only[Zf,ZP,ZD,ZC,Y5,ne_eq,Zn,false_iff,true_iff,iff_true,iff_false])
 all_goals rw[show((if k=5 then nk==ni else nk==0)=true)=((k=5∧nk=ni)∨(¬k=5∧nk=0))from by by_cases h:k=5<;>simp[h]]
 all_goals (by_cases hs:s=[]<;>simp only[hs,or_true,or_false,true_and,and_true,YH,YR,false_and,and_false]at*<;>first|omega|contradiction|(exfalso;simp_all;done))
theorem bje(k n:Int)(s:List UInt8)(a b:Option Addr)(ni ca nk cb:Nat)(w:World):
  Calls Tryz.prog 190 #[.agg #[.int .i64 k,.int .i64 n,.string ⟨s.toArray⟩,.slice a ni ca,.slice b nk cb]] w fun e w'=>e=.returned (.bool (Val.shapedB k n s ni nk))∧Below w.heap.size w w':=by
 obtain⟨R,hR⟩:=Ex (Val.shapedB k n s ni nk);rw[hR];have HR:=kept hR;clear hR;go_enter Tryz.func190,Tryz.ntmps190;go_wp2;all_goals go_ret
 all_goals refine⟨az6 ?_,ball w _⟩
 all_goals rw[←HR.out]
 all_goals unfold Val.shapedB
 all_goals (try simp only[ZC,Zw,Y5,ne_eq,ZP,YW,Zf,Zap,ZD,YU,bne_eq_false_iff_eq]at *)
 all_goals (rw[Z4];simp only[Zf,ZP,ZD,ZC,Y5,ne_eq,Zn,false_iff,true_iff,iff_true,iff_false])
 all_goals rw[show((if k=5 then nk==ni else nk==0)=true)=((k=5∧nk=ni)∨(¬k=5∧nk=0))from by by_cases h:k=5<;>simp[h]]
 all_goals (by_cases hs:s=[]<;>simp only[hs,or_true,or_false,true_and,and_true,YH,YR,false_and,and_false]at*<;>first|omega|contradiction|(exfalso;simp_all;done))
theorem ax2(n:Int)(w:World):
  Calls Tryz.prog 135 #[.int .i64 n] w fun e w'=>e=.returned (.bool (decide (-9007199254740992≤n∧n≤9007199254740992)))∧w'=w:=by
 go_enter Tryz.func135,Tryz.ntmps135;go_wp2;all_goals go_ret
 all_goals refine⟨az6 ?_,rfl⟩
 all_goals (rw[Z4];simp only[Zf,ZD,Zn,false_iff,true_iff,iff_true,iff_false]at *;try omega)
theorem aw5(n:Int)(w:World):
  Calls Tryz.prog 158 #[.int .i64 n] w fun e w'=>e=.returned (.bool (decide (-9007199254740992≤n∧n≤9007199254740992)))∧w'=w:=by
 go_enter Tryz.func158,Tryz.ntmps158;go_wp2;all_goals go_ret
 all_goals refine⟨az6 ?_,rfl⟩
 all_goals (rw[Z4];simp only[Zf,ZD,Zn,false_iff,true_iff,iff_true,iff_false]at *;try omega)
end
section
namespace Str
open Go.Lib
def hexv(b:UInt8):Int:=if 48≤b.toNat∧b.toNat≤57 then b.toNat-48 else if 97≤b.toNat∧b.toNat≤102 then b.toNat-87 else -1
def isHex(b:UInt8):Bool:=decide (0≤hexv b)
def hexN:Nat→List UInt8→Nat
 |0,_=>0
 |_,[]=>0
 |m+1,b::l=>if isHex b then hexN m l+1 else 0
def hexC(n:Nat)(l:List UInt8):Nat:=(l.take n).foldl (fun c b=>16*c+(hexv b).toNat) 0
def point(l:List UInt8):Nat×Nat×Int:=
 if hexN 6 l=l.length then(0,0,40)
 else if l.getD (hexN 6 l) 0≠125∨hexN 6 l=0∨(1<hexN 6 l∧l.getD 0 0=48)∨Utf8.valid (hexC (hexN 6 l) l)=false then(0,0,2)
 else(hexC (hexN 6 l) l,hexN 6 l+1,0)
def escp(l:List UInt8):Nat×Nat×Int:=
 match l with
 |[]=>(0,0,40)
 |b::t=>
  if b=110 then(10,1,0)else if b=114 then(13,1,0)else if b=116 then(9,1,0)else if b=34∨b=92 then(b.toNat,1,0)
  else if b=117 then(match t with
   |[]=>(0,0,40)
   |c::u=>if c=123 then((point u).1,(point u).2.1+2,(point u).2.2)else(0,0,2))
  else(0,0,2)
def enc(c:Nat):List UInt8:=encodeRune c
def one(l:List UInt8):List UInt8×Nat×Int:=
 if l.getD 0 0=92 then
  (if(escp (l.drop 1)).2.2≠0 then([],0,(escp (l.drop 1)).2.2)else(enc (escp (l.drop 1)).1,(escp (l.drop 1)).2.1+1,0))
 else if Bad (decodeL l)∨l.getD 0 0<32∨l.getD 0 0=127 then([],0,2)
 else(l.take (decodeL l).2,(decodeL l).2,0)
def unq:Nat→List UInt8→List UInt8→Nat→List UInt8×Nat×Int
 |0,_,_,_=>([],0,40)
 |f+1,l,acc,i=>
  if l=[]then([],0,40)
  else if l.getD 0 0=34 then(if 4096<acc.length then([],0,3)else(acc,i+1,0))
  else if(one l).2.2≠0 then([],0,(one l).2.2)
  else unq f (l.drop (one l).2.1) (acc++(one l).1) (i+(one l).2.1)
def unquote(l:List UInt8):List UInt8×Nat×Int:=
 if l=[]then([],0,40)else if l.getD 0 0≠34 then([],0,2)else unq l.length (l.drop 1) [] 1
theorem hexN_le:∀(m:Nat) (l:List UInt8),hexN m l≤m∧hexN m l≤l.length
 |0,_=>by simp[hexN]
 |m+1,[]=>by simp[hexN]
 |m+1,b::l=>by
  have:=hexN_le m l;unfold hexN;split<;>simp<;>omega
theorem hexN_end:∀(m k:Nat) (l:List UInt8),(∀j,j<k→isHex (l.getD j 0)=true)→k≤l.length→k≤m→(k=m∨k=l.length∨isHex (l.getD k 0)=false)→hexN m l=k
 |0,k,l,_,_,h3,_=>by simp[hexN];omega
 |m+1,k,[],_,h2,_,_=>by simp[hexN]at *;omega
 |m+1,0,b::l,_,_,_,h4=>by
  have:isHex b=false:=by
   rcases h4 with h|h|h
   ·omega
   ·simp at h
   ·simpa using h
  simp[hexN,this]
 |m+1,k+1,b::l,h1,h2,h3,h4=>by
  have hb:isHex b=true:=by simpa using h1 0 (by omega)
  have ih:=hexN_end m k l (fun j hj=>by simpa using h1 (j+1) (by omega)) (by simpa using h2) (by omega) (by
   rcases h4 with h|h|h
   ·exact .inl (by omega)
   ·exact .inr (.inl (by simpa using h))
   ·exact .inr (.inr (by simpa using h)))
  simp[hexN,hb,ih]
theorem hexv_le(b:UInt8):hexv b≤15:=by
 unfold hexv;split
 ·omega
 ·split<;>omega
theorem hexC_succ(n:Nat)(l:List UInt8)(h:n<l.length):hexC (n+1) l=16*hexC n l+(hexv l[n]).toNat:=by
 unfold hexC;rw[Yo h,List.foldl_append];rfl
theorem hexC_lt:∀(n:Nat) (l:List UInt8),n≤l.length→hexC n l<16^n
 |0,l,_=>by simp[hexC]
 |n+1,l,h=>by
  have ih:=hexC_lt n l (by omega);have:=hexv_le l[n];rw[hexC_succ n l (by omega),Nat.pow_succ];omega
theorem enc_length(c:Nat):1≤(enc c).length∧(enc c).length≤4:=by
 have:=encodeRuneZ_length c;simpa [enc,encodeRune]using this
theorem unq_step(f:Nat)(l acc:List UInt8)(i:Nat)(b:List UInt8)(n:Nat)(h1:l≠[])(h2:l.getD 0 0≠34)(h3:one l=(b,n,(0:Int))):unq (f+1) l acc i=unq f (l.drop n) (acc++b) (i+n):=by
 rw[unq,if_neg h1,if_neg h2,h3,if_neg (by simp)]
theorem unq_err(f:Nat)(l acc:List UInt8)(i:Nat)(b:List UInt8)(n:Nat)(e:Int)(h1:l≠[])(h2:l.getD 0 0≠34)(h3:one l=(b,n,e))(he:e≠0):unq (f+1) l acc i=([],0,e):=by
 rw[unq,if_neg h1,if_neg h2,h3,if_pos (by simpa using he)]
end Str
end
end Go.Proofs.YtnghhnahdjjpkaaGreatDoor
