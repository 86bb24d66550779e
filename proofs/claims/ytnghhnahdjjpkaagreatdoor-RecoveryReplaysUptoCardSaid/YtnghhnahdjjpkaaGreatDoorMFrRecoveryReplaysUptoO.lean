/- Part of what the proof needs. -/
import Derived.Test.YtnghhnahdjjpkaaGreatDoorMFrRecoveryReplaysUpto0
import Derived.Test.YtnghhnahdjjpkaaGreatDoorMFrRecoveryReplaysUptoF
import Derived.Test.YtnghhnahdjjpkaaGreatDoorMFrRecoveryReplaysUptoL
import Derived.Test.YtnghhnahdjjpkaaGreatDoorMFrRecoveryReplaysUptoN
import Derived.Shelf.Slices.Clone
set_option maxHeartbeats 4000000
set_option maxRecDepth 100000
set_option linter.all false
namespace Go.Proofs.YtnghhnahdjjpkaaGreatDoor
section
open Go.RowKit
open Go.Op (bytesLess)
namespace Adr
def Step.cells(s:Step):List AX.A:=[.str s.name,.int .i64 s.key.kind,.int .i64 s.key.num,.str s.key.str]
def Ad.cells(a:Ad):List AX.A:=[.sl 4 .no (a.mods.map Step.cells),.bool a.data,.str a.type,.str a.name,.int .i64 a.key.kind,.int .i64 a.key.num,.str a.key.str]
end Adr
namespace AX
def cmpZ(a b:List UInt8):Int:=if a==b then 0 else if bytesLess a b then -1 else 1
structure Leafs:Prop where
 parse:∀(s:List UInt8),s.length≤2000000→∀h,AT 60 [.str s] h (.tup [.agg (Adr.parse s).1.cells,.int .i64 (Adr.parse s).2])
 static:∀(s:List UInt8),s.length≤2000000→∀h,AT 102 [.str s] h (.tup [.str (Adr.static s).1,.int .i64 (Adr.static s).2])
 ident:∀(s:List UInt8),s.length≤2000000→∀h,AT 61 [.str s] h (.bool (Adr.ident s))
 num:∀(s:List UInt8),s.length≤2000000→∀h,AT 97 [.str s] h (.tup [.int .i64 (Num.parse s).1,.int .i64 (Num.parse s).2])
 cmp:∀(a b:List UInt8) h,AT 59 [.str a,.str b] h (.int .i64 (cmpZ a b))
 known:∀(v:V),v.lens→∀h,AT 56 [v.A] h (.bool (Sf.known v))
 text:∀(s:List UInt8),s.length≤2000000→∀h,AT 25 [.str s] h (.bool (Sf.text s))
def avx:AX.AFn:=⟨25,aS [aR 4 (.mv (.c (.bool false)))] (aS [aM 8 0,aR 9 (.call 60 [.t 8]),aM 7 9,aE 10 7 0,aE 11 7 1,aR 5 (.alloc 105 [.sl 0 .nil [],.bool false,.str [],.str [],.int .i64 0,.int .i64 0,.str []]),aU (.store 7 (.t 5) (.t 10)),aM 6 11] (aS [aM 12 6,aR 13 (.bin .eql (.t 12) (aI 0)),aM 14 13,aG 15 (.faddr 1 (.t 5)) 14 true,aG 16 (.load false 1 (.t 15)) 14 true,aG 17 (.un .not (.t 16)) 14 true,aR 18 (.pick (.t 14) (.t 17) (.c (.bool false))),aM 19 18,aG 20 (.faddr 2 (.t 5)) 19 true,aG 21 (.load false 1 (.t 20)) 19 true,aG 22 (.mv (.t 1)) 19 true,aG 23 (.bin .eql (.t 21) (.t 22)) 19 true,aR 24 (.pick (.t 19) (.t 23) (.c (.bool false))),aM 4 24] (.ret))),[.t 4]⟩
theorem cqt:AX.compFn Tryz.prog 29=some avx:=by kernel_rfl
def cv5:AX.AFn:=⟨16,aS [aR 2 (.mv (.c (.bool false)))] (aS [aM 6 0,aR 7 (.call 97 [.t 6]),aM 5 7,aE 8 5 0,aE 9 5 1,aM 3 8,aM 4 9] (aS [aM 10 4,aR 11 (.bin .eql (.t 10) (aI 0)),aM 12 11,aG 13 (.mv (.t 3)) 12 true,aG 14 (.bin .geq (.t 13) (aI 1)) 12 true,aR 15 (.pick (.t 12) (.t 14) (.c (.bool false))),aM 2 15] (.ret))),[.t 2]⟩
theorem dv9:AX.compFn Tryz.prog 54=some cv5:=by kernel_rfl
def akc:AX.AFn:=⟨8,aS [aR 1 (.box 42 (.t 0)),aR 2 (.alloc 70 [.str [],.str []])] (aS [aF 3 0 1,aL 4 3,aF 5 1 1,aL 6 5,aR 7 (.build [.str [],.str []] [(0,1,.t 4),(1,1,.t 6)]),aU (.store 2 (.t 2) (.t 7))] (.ret)),[.c 2 true 2]⟩
theorem cxd:AX.compFn Tryz.prog 27=some akc:=by kernel_rfl
def avw:AX.AFn:=⟨40,aS [aR 2 (.mv (.c (.bool false)))] (.seq (aS [aM 7 0,aR 8 (.len false (.t 7)),aR 9 (.mv (aI 0))] (.block 0 (.loop (aS [aR 10 (.bin .lss (.t 9) (.t 8))] (.seq (.cond (.t 10) (.skip) (.exit 0)) (.seq (.block 1 (aS [aM 11 9,aR 12 (.iaddr 1 (.t 7) (.t 9)),aL 13 12,aM 3 11,aM 4 13] (aS [aM 15 4,aR 16 (.call 102 [.t 15]),aM 14 16,aE 17 14 0,aE 18 14 1,aM 5 17,aM 6 18] (aS [aM 19 6,aR 20 (.bin .neq (.t 19) (aI 0)),aM 21 20,aG 22 (.mv (.t 5)) 21 false,aG 23 (.mv (.t 4)) 21 false,aG 24 (.bin .neq (.t 22) (.t 23)) 21 false,aR 25 (.pick (.t 21) (.c (.bool true)) (.t 24)),aM 26 25,aG 27 (.mv (.t 3)) 26 false,aG 28 (.bin .gtr (.t 27) (aI 0)) 26 false,aG 29 (.mv (.t 28)) 26 false,aG 30 (.mv (.t 4)) 29 true,aG 31 (.mv (.t 0)) 29 true,aG 32 (.mv (.t 3)) 29 true,aG 33 (.bin .sub (.t 32) (aI 1)) 29 true,aG 34 (.iaddr 1 (.t 31) (.t 33)) 29 true,aG 35 (.load false 1 (.t 34)) 29 true,aG 36 (.bin .leq (.t 30) (.t 35)) 29 true,aG 37 (.pick (.t 29) (.t 36) (.c (.bool false))) 26 false,aR 38 (.pick (.t 26) (.c (.bool true)) (.t 37))] (.cond (.t 38) (aS [aR 2 (.mv (.c (.bool false)))] (.ret)) (.skip)))))) (.reg false [aR 39 (.bin .add (.t 9) (aI 1)),aM 9 39]))))))) (aS [aR 2 (.mv (.c (.bool true)))] (.ret))),[.t 2]⟩
theorem cxx:AX.compFn Tryz.prog 57=some avw:=by kernel_rfl
def aw8:AX.AFn:=⟨18,aS [aR 1 (.box 65 (.t 0)),aR 2 (.mv (aI 0))] (.seq (aS [aF 4 0 1,aL 5 4,aR 6 (.call 61 [.t 5]),aR 7 (.un .not (.t 6))] (.cond (.t 7) (aS [aR 2 (.mv (aI 7))] (.ret)) (.skip))) (.seq (aS [aF 8 1 1,aR 9 (.load true 5 (.t 8)),aR 10 (.call 55 [.t 9]),aM 3 10] (aS [aM 11 3,aR 12 (.bin .neq (.t 11) (aI 0))] (.cond (.t 12) (aS [aM 13 3,aM 2 13] (.ret)) (.skip)))) (.seq (aS [aF 14 1 1,aR 15 (.load true 5 (.t 14)),aR 16 (.call 56 [.t 15]),aR 17 (.un .not (.t 16))] (.cond (.t 17) (aS [aR 2 (.mv (aI 11))] (.ret)) (.skip))) (aS [aR 2 (.mv (aI 0))] (.ret))))),[.t 2]⟩
theorem ckv:AX.compFn Tryz.prog 30=some aw8:=by kernel_rfl
def aj0:AX.AFn:=⟨53,aS [aR 1 (.box 42 (.t 0)),aR 2 (.mv (aI 0))] (.seq (aS [aF 4 0 1,aL 5 4,aF 6 3 1,aL 7 6,aR 8 (.call 29 [.t 5,.t 7]),aR 9 (.un .not (.t 8)),aM 10 9,aG 11 (.faddr 1 (.t 1)) 10 false,aG 12 (.load false 1 (.t 11)) 10 false,aG 13 (.bin .neq (.t 12) (.c (.str []))) 10 false,aG 14 (.mv (.t 13)) 10 false,aG 15 (.faddr 1 (.t 1)) 14 true,aG 16 (.load false 1 (.t 15)) 14 true,aG 17 (.call 54 [.t 16]) 14 true,aG 18 (.un .not (.t 17)) 14 true,aG 19 (.pick (.t 14) (.t 18) (.c (.bool false))) 10 false,aR 20 (.pick (.t 10) (.c (.bool true)) (.t 19)),aM 21 20,aG 22 (.faddr 2 (.t 1)) 21 false,aG 23 (.load false 1 (.t 22)) 21 false,aG 24 (.call 25 [.t 23]) 21 false,aG 25 (.un .not (.t 24)) 21 false,aR 26 (.pick (.t 21) (.c (.bool true)) (.t 25))] (.cond (.t 26) (aS [aR 2 (.mv (aI 1))] (.ret)) (.skip))) (.seq (aS [aF 27 4 1,aR 28 (.load true 5 (.t 27)),aR 29 (.call 55 [.t 28]),aM 3 29] (aS [aM 30 3,aR 31 (.bin .neq (.t 30) (aI 0))] (.cond (.t 31) (aS [aM 32 3,aM 2 32] (.ret)) (.skip)))) (.seq (aS [aF 33 4 1,aF 34 0 33,aL 35 34,aR 36 (.bin .neq (.t 35) (aI 5))] (.cond (.t 36) (aS [aR 2 (.mv (aI 6))] (.ret)) (.skip))) (.seq (aS [aF 37 4 1,aR 38 (.load true 5 (.t 37)),aR 39 (.call 56 [.t 38]),aR 40 (.un .not (.t 39))] (.cond (.t 40) (aS [aR 2 (.mv (aI 11))] (.ret)) (.skip))) (.seq (aS [aF 41 9 1,aL 42 41,aR 43 (.bin .lss (.t 42) (aI 1)),aM 44 43,aG 45 (.faddr 9 (.t 1)) 44 false,aG 46 (.load false 1 (.t 45)) 44 false,aG 47 (.bin .gtr (.t 46) (aI 9007199254740992)) 44 false,aR 48 (.pick (.t 44) (.c (.bool true)) (.t 47))] (.cond (.t 48) (aS [aR 2 (.mv (aI 5))] (.ret)) (.skip))) (.seq (aS [aF 49 12 1,aL 50 49,aR 51 (.call 57 [.t 50]),aR 52 (.un .not (.t 51))] (.cond (.t 52) (aS [aR 2 (.mv (aI 1))] (.ret)) (.skip))) (aS [aR 2 (.mv (aI 0))] (.ret)))))))),[.t 2]⟩
theorem bk5:AX.compFn Tryz.prog 26=some aj0:=by kernel_rfl
theorem bkc(L:Leafs)(s t:List UInt8)(hs:s.length≤2000000)(h:Hp):AT 29 [.str s,.str t] h (.bool (Sf.managed s t)):=by
 refine pcall ?_ rfl (by simp[A.pure,A.data]) h;refine azb mixedT cqt (by simp[avx]) ?_;dsimp only[avx];have hp:=fun h=>L.parse s hs h
 unfold Sf.managed;obtain⟨⟨⟨mods,data,ty,nm,⟨kk,kn,ks⟩⟩,e⟩,he⟩:=Ex (Adr.parse s);rw[he]at hp⊢;simp only[Adr.Ad.cells]at hp;refine azf ti ?_;refine use (hp _) ?_;dsimp only;rcases azs (e==0)with e0|e0
 ·rw[e0];(refine AX.azf e0 ?_);first
  |exact⟨_, le_refl _, rfl⟩
  | (cases data
     · (refine AX.azf AX.ti ?_)
       exact ⟨_, le_refl _, rfl⟩
     · (refine AX.azf AX.ti ?_)
       exact ⟨_, le_refl _, rfl⟩)
 ·rw[e0];(refine AX.azf e0 ?_);first
  |exact⟨_, le_refl _, rfl⟩
  | (cases data
     · (refine AX.azf AX.ti ?_)
       exact ⟨_, le_refl _, rfl⟩
     · (refine AX.azf AX.ti ?_)
       exact ⟨_, le_refl _, rfl⟩)
theorem dkv(L:Leafs)(s:List UInt8)(hs:s.length≤2000000)(h:Hp):AT 54 [.str s] h (.bool ((Num.parse s).2==0&&decide (1≤(Num.parse s).1))):=by
 refine pcall ?_ rfl (by simp[A.pure,A.data]) h;refine azb mixedT dv9 (by simp[cv5]) ?_;dsimp only[cv5];have hp:=fun h=>L.num s hs h
 obtain⟨⟨n,e⟩,he⟩:=Ex (Num.parse s);rw[he]at hp⊢;dsimp only at hp⊢;refine azf ti ?_;refine use (hp _) ?_;rcases azs (e==0)with e0|e0
 ·rw[e0];refine azf e0 ?_;exact Fn rfl
 ·rw[e0];refine azf e0 ?_;exact Fn rfl
theorem axs(x:Sf.Inst)(h:Hp):AT 27 [.agg x.cells] h (.agg [.str x.addr,.str x.dep]):=by
 obtain⟨a,d,id,ty,⟨k,n,w,vi,vy⟩,v,tn,fi,ds⟩:=x;refine pcall ?_ rfl (by simp[A.pure,A.data,Sf.Inst.cells]) h;refine azb mixedT cxd (by simp[akc]) ?_;dsimp only[akc,Sf.Inst.cells];refine azf ti ?_;exact Fn rfl
theorem dzk(L:Leafs)(o:Sf.Outp)(hs:o.name.length≤2000000)(hl:o.value.lens)(h:Hp):AT 30 [.agg o.cells] h (.int .i64 (Sf.outZ o)):=by
 have hi:=fun h=>L.ident o.name hs h
 have hk:=fun h=>L.known o.value hl h
 have hc:=fun h=>bjv o.value hl h
 obtain⟨Z,hZ⟩:=Ex (Sf.outZ o);rw[hZ];unfold Sf.outZ at hZ;obtain⟨m,⟨k,n,w,vi,vy⟩,b⟩:=o;dsimp only at hi hk hc hZ;have hVA:(V.mk k n w vi vy).A=.agg [.int .i64 k,.int .i64 n,.str w,.sl 5 .no (V.cellss vi),.sl 1 .no (strsA vy)]:=by simp only[V.A,V.cells]
 rw[hVA]at hk hc;refine pcall ?_ rfl (by simp[A.pure,A.data,Sf.Outp.cells]) h;refine azb mixedT ckv (by simp[aw8]) ?_;dsimp only[aw8,Sf.Outp.cells];refine azf ti ?_;refine use (hi _) ?_;cases hI:Adr.ident m
 ·rw[hI,if_pos (by decide)]at hZ;refine azf ti ?_;exact⟨_,le_refl _,by rw[←hZ];rfl⟩
 rw[hI,if_neg (by decide)]at hZ;refine azf ti ?_;refine use (hc _) ?_;by_cases hz:Val.checkZ (.mk k n w vi vy)=0
 rotate_left
 ·have e1:(Val.checkZ (.mk k n w vi vy)!=0)=true:=by simp[hz]
  rw[if_pos hz]at hZ;refine azf e1 ?_;exact⟨_,le_refl _,by rw[←hZ];rfl⟩
 have e1:(Val.checkZ (.mk k n w vi vy)!=0)=false:=by simp[hz]
 rw[if_neg (by simp[hz])]at hZ;refine azf e1 ?_;refine use (hk _) ?_;cases hK:Sf.known (.mk k n w vi vy)
 ·rw[hK,if_pos (by decide)]at hZ;refine azf ti ?_;exact⟨_,le_refl _,by rw[←hZ];rfl⟩
 ·rw[hK,if_neg (by decide)]at hZ;refine azf ti ?_;exact⟨_,le_refl _,by rw[←hZ];rfl⟩
theorem cjv(L:Leafs)(ds:List (List UInt8))(hn:ds.length≤1000000000)(hs:∀s∈ds,s.length≤2000000)(h:Hp):AT 57 [.sl 1 .no (strsA ds)] h (.bool (Sf.depsB none ds)):=by
 refine pcall ?_ rfl (by simp[A.pure,A.data]) h;refine azb mixedT cxx (by simp[avw]) ?_;dsimp only[avw];obtain⟨D,hD⟩:=Ex (Sf.depsB none ds);rw[hD];have lm:(strsA ds).length=ds.length:=azh ds;refine azf lm ?_;refine azd (fun mm ts h=>∃(j:Nat),mm=ds.length-j∧j≤ds.length∧h=⟨[],[]⟩∧Sf.depsB (if j=0 then none else ds[j-1]?) (ds.drop j)=D∧ts 0=.sl 1 .no (strsA ds)∧ts 7=.sl 1 .no (strsA ds)∧ts 8=.int .i64 (ds.length:Nat)∧ts 9=.int .i64 (j:Nat)) ds.length ?_ ?_
 ·exact⟨0,by omega,by omega,rfl,hD,by(exact ev0 ti),by(exact ev0 ti),by(exact ev0 lm),by(exact azo ti)⟩
 rintro mm ts h ⟨j,rfl,hjc,rfl,hit,t0,ta,tb,tc⟩;by_cases hj:j<ds.length
 ·have hlt:(j:Int)<(ds.length:Int):=by omega
  have hlt':(j:Int)<((strsA ds).length:Int):=by rw[azh];exact hlt
  have hj0:(0:Int)≤(j:Int):=by omega
  have ei:IntKind.i64.wrap ((j:Int)+1)=((j+1:Nat):Int):=by rw[wrap64 (by omega) (by omega)];omega
  have hg:=az1 ds j hj;have hst:=fun h=>L.static ds[j] (hs _ (Zp hj)) h
  rw[Zl hj]at hit;unfold Sf.depsB at hit;have hsB:Sf.staticB ds[j]=((Adr.static ds[j]).2==0&&(Adr.static ds[j]).1==ds[j]):=rfl;obtain⟨⟨w,e⟩,hw⟩:=Ex (Adr.static ds[j]);rw[hw]at hst hsB;dsimp only at hst hsB;rw[hsB]at hit;refine azf (ai t0 (ai ta (ai tb (ai tc (ai hlt (ai hg (ai hlt' hj0))))))) ?_;refine use (hst _) ?_;by_cases he:e=0
  rotate_left
  ·have e1:(e !=0)=true:=by simp[he]
   have e2:(e==0)=false:=by simp[he]
   rw[e2,Ye,Ye,Ye]at hit;subst hit;refine azf (ai t0 (ai ta (ai tb (ai tc e1)))) ?_;exact Fn rfl
  have e1:(e !=0)=false:=by simp[he]
  have e2:(e==0)=true:=by simp[he]
  rw[e2,ZG]at hit;by_cases hw2:w=ds[j]
  rotate_left
  ·have w1:(w !=ds[j])=true:=by simp[hw2]
   have w2:(w==ds[j])=false:=by simp[hw2]
   rw[w2,Ye,Ye]at hit;subst hit;refine azf (ai t0 (ai ta (ai tb (ai tc (ai e1 w1))))) ?_;exact Fn rfl
  have w1:(w !=ds[j])=false:=by simp[hw2]
  have w2:(w==ds[j])=true:=by simp[hw2]
  rw[w2,ZG]at hit;cases j with
  |zero=>
   have h0:¬((0:Nat):Int)>0:=by omega
   simp only[if_true,Val.badB,ZU,ZG]at hit;refine azf (ai t0 (ai ta (ai tb (ai tc (ai e1 (ai w1 (ai h0 ei))))))) ?_;exact⟨ds.length-1,by omega,1,rfl,by omega,rfl,by rw[←hit];simp[hj],by(exact ev0 t0),by(exact ev0 ta),by(exact ev0 tb),by(exact ev0 ei)⟩
  |succ i=>
   have h0:((i+1:Nat):Int)>0:=by omega
   have ej:IntKind.i64.wrap (((i+1:Nat):Int)-1)=(i:Int):=by rw[wrap64 (by omega) (by omega)];omega
   have hg2:=az1 ds i (by omega);have hi':(i:Int)<((strsA ds).length:Int):=by omega
   have hi0:(0:Int)≤(i:Int):=by omega
   have hki:ds[i+1-1]?=some (ds[i]'(by omega)):=Zm (by omega);rw[if_neg (by omega),hki]at hit;simp only[Val.badB]at hit;rw[Val.less_total]at hit;rcases azs (bytesLess ds[i+1] ds[i]||ds[i+1]==ds[i])with hb|hb
   ·rw[hb]at hit;refine azf (ai t0 (ai ta (ai tb (ai tc (ai e1 (ai w1 (ai h0 (ai ej (ai hg2 (ai hi' (ai hi0 (ai hb ei)))))))))))) ?_;first
    |(subst hit;exact Fn rfl)
    |exact⟨ds.length-(i+1+1),by omega,i+1+1,rfl,by omega,rfl,by rw[←hit];simp[hj],by(exact ev0 t0),by(exact ev0 ta),by(exact ev0 tb),by(exact ev0 ei)⟩
   ·rw[hb]at hit;refine azf (ai t0 (ai ta (ai tb (ai tc (ai e1 (ai w1 (ai h0 (ai ej (ai hg2 (ai hi' (ai hi0 (ai hb ei)))))))))))) ?_;first
    |(subst hit;exact Fn rfl)
    |exact⟨ds.length-(i+1+1),by omega,i+1+1,rfl,by omega,rfl,by rw[←hit];simp[hj],by(exact ev0 t0),by(exact ev0 ta),by(exact ev0 tb),by(exact ev0 ei)⟩
 ·have hlt:¬((j:Int)<(ds.length:Int)):=by omega
  rw[ZQ (by omega)]at hit;unfold Sf.depsB at hit;subst hit;refine azf (ai t0 (ai ta (ai tb (ai tc hlt)))) ?_;exact Fn rfl
structure Sf.InstIn(x:Sf.Inst):Prop where
 a:x.addr.length≤2000000
 d:x.dep.length≤2000000
 i:x.id.length≤2000000
 l:x.attrs.lens
 n:x.deps.length≤1000000000
 ds:∀s∈x.deps,s.length≤2000000
theorem cq9(L:Leafs)(x:Sf.Inst)(hx:Sf.InstIn x)(h:Hp):AT 26 [.agg x.cells] h (.int .i64 (Sf.instZ x)):=by
 have cm:=fun h=>bkc L x.addr x.typ hx.a h
 have ck:=fun h=>dkv L x.dep hx.d h
 have ct:=fun h=>L.text x.id hx.i h
 have cv:=fun h=>bjv x.attrs hx.l h
 have cn:=fun h=>L.known x.attrs hx.l h
 have cs:=fun h=>cjv L x.deps hx.n hx.ds h
 obtain⟨Z,hZ⟩:=Ex (Sf.instZ x);rw[hZ];unfold Sf.instZ Sf.keyB at hZ;obtain⟨a,d,id,ty,⟨k,n,w,vi,vy⟩,v,tn,fi,ds⟩:=x;clear hx;dsimp only at cm ck ct cv cn cs hZ;have hVA:(V.mk k n w vi vy).A=.agg [.int .i64 k,.int .i64 n,.str w,.sl 5 .no (V.cellss vi),.sl 1 .no (strsA vy)]:=by simp only[V.A,V.cells]
 rw[hVA]at cv cn;obtain⟨M,hM⟩:=Ex (Sf.managed a ty);obtain⟨K,hK⟩:=Ex (((Num.parse d).2==0&&decide (1≤(Num.parse d).1)));obtain⟨T,hT⟩:=Ex (Sf.text id);obtain⟨C,hC⟩:=Ex (Val.checkZ (.mk k n w vi vy));obtain⟨N,hN⟩:=Ex (Sf.known (.mk k n w vi vy));obtain⟨S,hS⟩:=Ex (Sf.depsB none ds);have hkd:Sf.V.kind (.mk k n w vi vy)=k:=rfl;rw[hM]at cm hZ;rw[hK]at ck hZ;rw[hT]at ct hZ;rw[hC]at cv hZ;rw[hN]at cn hZ;rw[hS]at cs hZ;rw[hkd]at hZ;refine pcall ?_ rfl (by simp[A.pure,A.data,Sf.Inst.cells]) h;refine azb mixedT bk5 (by simp[aj0]) ?_;dsimp only[aj0,Sf.Inst.cells];refine azf ti ?_;refine use (cm _) ?_;cases M
 ·rw[if_pos (by simp)]at hZ;subst hZ;refine azf ti ?_;exact Fn rfl
 have key:∀{G:Prop},((d != [])=false→(d == [])=true→G)→((d != [])=true→(d == [])=false→G)→G:=fun p q=>by
  by_cases e:d=[]
  ·exact p (by simp[e]) (by simp[e])
  ·exact q (by simp[e]) (by simp[e])
 have rest:True:=ti;refine key (fun d1 d2=>?_) (fun d1 d2=>?_);all_goals rw[d2]at hZ
 ·refine azf d1 ?_;refine use (ct _) ?_;cases T
  ·rw[if_pos (by simp)]at hZ;subst hZ;refine azf ti ?_;exact Fn rfl
  rw[if_neg (by simp)]at hZ;refine azf ti ?_;refine use (cv _) ?_;by_cases hz:C=0
  rotate_left
  ·have e1:(C !=0)=true:=by simp[hz]
   rw[if_pos hz]at hZ;refine azf e1 ?_;exact⟨_,le_refl _,by rw[←hZ];rfl⟩
  have e1:(C !=0)=false:=by simp[hz]
  rw[if_neg (by simp[hz])]at hZ;by_cases hk5:k=5
  rotate_left
  ·have e2:(k !=5)=true:=by simp[hk5]
   rw[if_pos hk5]at hZ;refine azf (ai e1 e2) ?_;exact⟨_,le_refl _,by rw[←hZ];rfl⟩
  have e2:(k !=5)=false:=by simp[hk5]
  rw[if_neg (by simp[hk5])]at hZ;refine azf (ai e1 e2) ?_;refine use (cn _) ?_;cases N
  ·rw[if_pos (by simp)]at hZ;refine azf ti ?_;exact⟨_,le_refl _,by rw[←hZ];rfl⟩
  rw[if_neg (by simp)]at hZ;by_cases v0:v<1
  ·rw[if_pos (.inl v0)]at hZ;refine azf v0 ?_;exact⟨_,le_refl _,by rw[←hZ];rfl⟩
  by_cases v1:v>9007199254740992
  ·rw[if_pos (.inr v1)]at hZ;refine azf (ai v0 v1) ?_;exact⟨_,le_refl _,by rw[←hZ];rfl⟩
  rw[if_neg (by omega)]at hZ;refine azf (ai v0 v1) ?_;refine use (cs _) ?_;cases S
  ·rw[if_pos (by simp)]at hZ;refine azf ti ?_;exact⟨_,le_refl _,by rw[←hZ];rfl⟩
  ·rw[if_neg (by simp)]at hZ;refine azf ti ?_;exact⟨_,le_refl _,by rw[←hZ];rfl⟩
 ·refine azf d1 ?_;refine use (ck _) ?_;cases K
  ·rw[if_pos (by simp)]at hZ;subst hZ;refine azf ti ?_;exact Fn rfl
  refine azf ti ?_;refine use (ct _) ?_;cases T
  ·rw[if_pos (by simp)]at hZ;subst hZ;refine azf ti ?_;exact Fn rfl
  rw[if_neg (by simp)]at hZ;refine azf ti ?_;refine use (cv _) ?_;by_cases hz:C=0
  rotate_left
  ·have e1:(C !=0)=true:=by simp[hz]
   rw[if_pos hz]at hZ;refine azf e1 ?_;exact⟨_,le_refl _,by rw[←hZ];rfl⟩
  have e1:(C !=0)=false:=by simp[hz]
  rw[if_neg (by simp[hz])]at hZ;by_cases hk5:k=5
  rotate_left
  ·have e2:(k !=5)=true:=by simp[hk5]
   rw[if_pos hk5]at hZ;refine azf (ai e1 e2) ?_;exact⟨_,le_refl _,by rw[←hZ];rfl⟩
  have e2:(k !=5)=false:=by simp[hk5]
  rw[if_neg (by simp[hk5])]at hZ;refine azf (ai e1 e2) ?_;refine use (cn _) ?_;cases N
  ·rw[if_pos (by simp)]at hZ;refine azf ti ?_;exact⟨_,le_refl _,by rw[←hZ];rfl⟩
  rw[if_neg (by simp)]at hZ;by_cases v0:v<1
  ·rw[if_pos (.inl v0)]at hZ;refine azf v0 ?_;exact⟨_,le_refl _,by rw[←hZ];rfl⟩
  by_cases v1:v>9007199254740992
  ·rw[if_pos (.inr v1)]at hZ;refine azf (ai v0 v1) ?_;exact⟨_,le_refl _,by rw[←hZ];rfl⟩
  rw[if_neg (by omega)]at hZ;refine azf (ai v0 v1) ?_;refine use (cs _) ?_;cases S
  ·rw[if_pos (by simp)]at hZ;refine azf ti ?_;exact⟨_,le_refl _,by rw[←hZ];rfl⟩
  ·rw[if_neg (by simp)]at hZ;refine azf ti ?_;exact⟨_,le_refl _,by rw[←hZ];rfl⟩
end AX
namespace Adr
theorem indexAny_word:∀s:List UInt8,(Lib.indexAny s [46,91]=-1∧s.takeWhile (fun c=>!stopB c)=s∧s.dropWhile (fun c=>!stopB c)=[]) ∨
  ∃n:Nat,Lib.indexAny s [46,91]=n∧n≤s.length∧s.takeWhile (fun c=>!stopB c)=s.take n∧s.dropWhile (fun c=>!stopB c)=s.drop n
 |[]=> .inl ⟨rfl,rfl,rfl⟩
 |c::s=>by
  have hc:([46,91]:List UInt8).contains c=stopB c:=by
   unfold stopB;simp;rfl
  unfold Lib.indexAny;rw[hc];cases h:stopB c
  ·rcases indexAny_word s with⟨h1,h2,h3⟩|⟨n,h1,h2,h3,h4⟩
   ·refine .inl ⟨by rw[h1];rfl,?_,?_⟩
    ·rw[Yp (by simp[h]),h2]
    ·rw[YD (by simp[h]),h3]
   ·refine .inr ⟨n+1,?_,by simpa using h2,?_,?_⟩
    ·rw[h1];have e:((n:Int) == -1)=false:=by simp<;>omega
     simp only[Zn,if_false,e];omega
    ·rw[Yp (by simp[h]),h3,Z8]
    ·rw[YD (by simp[h]),h4,Z5]
  ·refine .inr ⟨0,rfl,Zq _,?_,?_⟩
   ·rw[YN (by simp[h])];rfl
   ·rw[YZ (by simp[h])];rfl
theorem indexByte_key:∀s:List UInt8,(s.all (· != 93)=true∧Lib.indexByte s 93=-1)∨(s.all (· != 93)=false∧Lib.indexByte s 93=((s.takeWhile (· != 93)).length:Nat)∧(s.takeWhile (· != 93)).length≤s.length)
 |[]=> .inl ⟨rfl,rfl⟩
 |c::s=>by
  unfold Lib.indexByte;by_cases h:c=93
  ·subst h;refine .inr ⟨by simp,?_,Nat.le_of_lt_succ (by simp)⟩;simp
  ·have hb:(c==93)=false:=by simp[h]
   have hn:(c !=93)=true:=by simp[h]
   rcases indexByte_key s with⟨h1,h2⟩|⟨h1,h2,h3⟩
   ·refine .inl ⟨by rw[ZM,hn,h1];rfl,?_⟩;simp[hb,h,h2]
   ·refine .inr ⟨by rw[ZM,h1,YY],?_,?_⟩
    ·simp only[List.takeWhile_cons,hn,if_true,Zi,hb,Zn,if_false,h2];have e:(((s.takeWhile (· != 93)).length:Nat):Int) == -1↔False:=by simp<;>omega
     rw[if_neg (by rw[e];exact id)];omega
    ·simp only[List.takeWhile_cons,hn,if_true,Zi];omega
theorem cmp_bytes:∀a b:List UInt8,Lib.compareBytes a b=AX.cmpZ a b
 |[],[]=>rfl
 |[],_::_=>rfl
 |_::_,[]=>rfl
 |a::a1,b::b1=>by
  have ih:=cmp_bytes a1 b1;unfold AX.cmpZ at ih⊢;unfold Lib.compareBytes bytesLess;by_cases h1:a<b
  ·have hne:a≠b:=by intro e;subst e;exact absurd h1 (by simp)
   simp[h1,hne]
  ·by_cases h2:b<a
   ·have hne:a≠b:=by intro e;subst e;exact absurd h2 (by simp)
    simp[h1,h2,hne]
   ·have he:a=b:=by
     have h3:¬a.toNat<b.toNat:=h1;have h4:¬b.toNat<a.toNat:=h2;exact Ym.1 (by omega)
    subst he;rw[if_neg h1,if_neg h2,ih];simp
end Adr
namespace AX
def bys:AX.AFn:=⟨18,aS [aR 2 (.mv (.c (.bool false)))] (.seq (aS [aM 3 0] (.block 0 (.seq (aS [aR 5 (.bin .eql (.t 3) (.c (.str [109,111,100,117,108,101]))),aM 4 5] (.cond (.t 4) (.skip) (aS [aR 6 (.bin .eql (.t 3) (.c (.str [100,97,116,97]))),aM 4 6] (.cond (.t 4) (.skip) (aS [aR 7 (.bin .eql (.t 3) (.c (.str [118,97,114]))),aM 4 7] (.cond (.t 4) (.skip) (aS [aR 8 (.bin .eql (.t 3) (.c (.str [108,111,99,97,108]))),aM 4 8] (.cond (.t 4) (.skip) (aS [aR 9 (.bin .eql (.t 3) (.c (.str [101,97,99,104]))),aM 4 9] (.cond (.t 4) (.skip) (aS [aR 10 (.bin .eql (.t 3) (.c (.str [99,111,117,110,116]))),aM 4 10] (.cond (.t 4) (.skip) (aS [aR 11 (.bin .eql (.t 3) (.c (.str [114,101,109,111,116,101]))),aM 4 11] (.cond (.t 4) (.skip) (aS [aR 12 (.bin .eql (.t 3) (.c (.str [111,117,116,112,117,116]))),aM 4 12] (.cond (.t 4) (.skip) (aS [aR 13 (.bin .eql (.t 3) (.c (.str [112,97,116,104]))),aM 4 13] (.cond (.t 4) (.skip) (aS [aR 14 (.bin .eql (.t 3) (.c (.str [115,101,108,102]))),aM 4 14] (.cond (.t 4) (.skip) (.reg false [aR 15 (.bin .eql (.t 3) (.c (.str [99,104,97,110,103,101]))),aM 4 15]))))))))))))))))))))) (.cond (.t 4) (aS [aR 2 (.mv (.c (.bool false)))] (.ret)) (.skip))))) (aS [aM 16 0,aR 17 (.call 61 [.t 16]),aM 2 17] (.ret))),[.t 2]⟩
theorem djb:AX.compFn Tryz.prog 109=some bys:=by kernel_rfl
def bw2:AX.AFn:=⟨45,aS [aR 2 (.mv (.c (.str [])))] (aS [aM 5 0,aR 6 (.nilck (.t 5)),aF 7 0 6,aL 8 7,aR 9 (.call 143 [.t 8,.c (.str [46,91])]),aM 3 9] (.seq (aS [aM 10 3,aR 11 (.bin .lss (.t 10) (aI 0))] (.cond (.t 11) (.reg false [aM 12 0,aR 13 (.nilck (.t 12)),aF 14 0 13,aL 15 14,aR 16 (.len true (.t 15)),aM 3 16]) (.skip))) (aS [aM 17 0,aR 18 (.nilck (.t 17)),aF 19 0 18,aL 20 19,aM 21 3,aR 22 (.ssl (.t 20) none (some (.t 21))),aM 4 22] (aS [aM 23 0,aM 24 0,aR 25 (.nilck (.t 24)),aF 26 0 25,aL 27 26,aM 28 3,aR 29 (.ssl (.t 27) (some (.t 28)) none),aR 30 (.nilck (.t 23)),aF 31 0 30,aU (.store 1 (.t 31) (.t 29))] (aS [aM 32 0,aM 33 0,aR 34 (.nilck (.t 33)),aF 35 1 34,aL 36 35,aM 37 36,aG 38 (.mv (.t 4)) 37 false,aG 39 (.call 61 [.t 38]) 37 false,aG 40 (.un .not (.t 39)) 37 false,aR 41 (.pick (.t 37) (.c (.bool true)) (.t 40)),aR 42 (.nilck (.t 32)),aF 43 1 42,aU (.store 1 (.t 43) (.t 41))] (aS [aM 44 4,aM 2 44] (.ret))))))),[.t 2]⟩
theorem dvq:AX.compFn Tryz.prog 107=some bw2:=by kernel_rfl
def bxa:AX.AFn:=⟨35,aS [aR 1 (.box 103 (.t 0)),aR 2 (.mv (.c (.bool false)))] (.seq (aS [aF 3 0 1,aL 4 3] (.block 0 (aS [aR 6 (.bin .eql (.t 4) (aI 0)),aM 5 6] (.cond (.t 5) (aS [aR 7 (.load true 3 (.t 1)),aR 8 (.build [.int .i64 0,.int .i64 0,.str []] []),aR 9 (.eq 2 [0,0,1] false (.t 7) (.t 8)),aM 2 9] (.ret)) (aS [aR 11 (.bin .eql (.t 4) (aI 1)),aM 10 11] (.cond (.t 10) (aS [aF 12 1 1,aL 13 12,aR 14 (.bin .geq (.t 13) (aI 0)),aM 15 14,aG 16 (.faddr 1 (.t 1)) 15 true,aG 17 (.load false 1 (.t 16)) 15 true,aG 18 (.bin .leq (.t 17) (aI 9007199254740992)) 15 true,aR 19 (.pick (.t 15) (.t 18) (.c (.bool false))),aM 20 19,aG 21 (.faddr 2 (.t 1)) 20 true,aG 22 (.load false 1 (.t 21)) 20 true,aG 23 (.bin .eql (.t 22) (.c (.str []))) 20 true,aR 24 (.pick (.t 20) (.t 23) (.c (.bool false))),aM 2 24] (.ret)) (aS [aR 26 (.bin .eql (.t 4) (aI 2)),aM 25 26] (.cond (.t 25) (aS [aF 27 1 1,aL 28 27,aR 29 (.bin .eql (.t 28) (aI 0)),aM 30 29,aG 31 (.faddr 2 (.t 1)) 30 true,aG 32 (.load false 1 (.t 31)) 30 true,aG 33 (.call 53 [.t 32]) 30 true,aR 34 (.pick (.t 30) (.t 33) (.c (.bool false))),aM 2 34] (.ret)) (.skip))))))))) (aS [aR 2 (.mv (.c (.bool false)))] (.ret))),[.t 2]⟩
theorem cw8:AX.compFn Tryz.prog 199=some bxa:=by kernel_rfl
theorem dkx(a b:List UInt8)(h:Hp):AT 59 [.str a,.str b] h (.int .i64 (cmpZ a b)):=by
 rw[←Adr.cmp_bytes];exact azx (djm ajr ajr) (fun w hg=>(Tryz.strings_Compare ⟨a.toArray⟩ ⟨b.toArray⟩ w).mono fun e w' ⟨h1,h2⟩=>⟨h1,by rw[h2];exact Below.refl _ _⟩) (fun C=>rep_int.2 rfl) h
theorem cxu(s:List UInt8)(hs:s.length≤2000000)(h:Hp):AT 143 [.str s,.str [46,91]] h (.int .i64 (Lib.indexAny s [46,91])):=
 azx (djm ajr ajr) (fun w hg=>bv1 ⟨s.toArray⟩ (by rw[size_mk];omega) w) (fun C=>rep_int.2 rfl) h
theorem byn(s:List UInt8)(h:Hp):AT 147 [.str s,.int .u8 93] h (.int .i64 (Lib.indexByte s 93)):=
 azx (djm ajr dj7) (fun w hg=>(Tryz.strings_IndexByte ⟨s.toArray⟩ 93 w).mono fun e w' ⟨h1,h2⟩=>⟨h1,by rw[h2];exact Below.refl _ _⟩) (fun C=>rep_int.2 rfl) h
theorem dqv(s:List UInt8)(hs:s.length≤2000000)(h:Hp):AT 109 [.str s] h (.bool (Adr.kindB s)):=by
 refine pcall ?_ rfl (by simp[A.pure,A.data]) h;refine azb mixedT djb (by simp[bys]) ?_;dsimp only[bys];have hi:=fun h=>aw4 s hs h
 have hk:Adr.kindB s=(!Adr.reserved s&&Adr.ident s):=rfl;have hr:∀{G:Prop} (w:List UInt8),((s==w)=true→G)→((s==w)=false→G)→G:=fun w p q=>by
  cases e:s==w
  ·exact q e
  ·exact p e
 have res:∀w,(s==w)=true→w∈Adr.reservedL→Adr.kindB s=false:=fun w e hw=>by
  rw[ZC]at e;subst e;rw[hk];unfold Adr.reserved;rw[Zai.2 hw];rfl
 refine hr [109,111,100,117,108,101] (fun e1=>?_) fun e1=>?_
 ·refine azf e1 ?_;exact⟨_,le_refl _,by rw[res _ e1 (by decide)];rfl⟩
 refine hr [100,97,116,97] (fun e2=>?_) fun e2=>?_
 ·refine azf (ai e1 e2) ?_;exact⟨_,le_refl _,by rw[res _ e2 (by decide)];rfl⟩
 refine hr [118,97,114] (fun e3=>?_) fun e3=>?_
 ·refine azf (ai e1 (ai e2 e3)) ?_;exact⟨_,le_refl _,by rw[res _ e3 (by decide)];rfl⟩
 refine hr [108,111,99,97,108] (fun e4=>?_) fun e4=>?_
 ·refine azf (ai e1 (ai e2 (ai e3 e4))) ?_;exact⟨_,le_refl _,by rw[res _ e4 (by decide)];rfl⟩
 refine hr [101,97,99,104] (fun e5=>?_) fun e5=>?_
 ·refine azf (ai e1 (ai e2 (ai e3 (ai e4 e5)))) ?_;exact⟨_,le_refl _,by rw[res _ e5 (by decide)];rfl⟩
 refine hr [99,111,117,110,116] (fun e6=>?_) fun e6=>?_
 ·refine azf (ai e1 (ai e2 (ai e3 (ai e4 (ai e5 e6))))) ?_;exact⟨_,le_refl _,by rw[res _ e6 (by decide)];rfl⟩
 refine hr [114,101,109,111,116,101] (fun e7=>?_) fun e7=>?_
 ·refine azf (ai e1 (ai e2 (ai e3 (ai e4 (ai e5 (ai e6 e7)))))) ?_;exact⟨_,le_refl _,by rw[res _ e7 (by decide)];rfl⟩
 refine hr [111,117,116,112,117,116] (fun e8=>?_) fun e8=>?_
 ·refine azf (ai e1 (ai e2 (ai e3 (ai e4 (ai e5 (ai e6 (ai e7 e8))))))) ?_;exact⟨_,le_refl _,by rw[res _ e8 (by decide)];rfl⟩
 refine hr [112,97,116,104] (fun e9=>?_) fun e9=>?_
 ·refine azf (ai e1 (ai e2 (ai e3 (ai e4 (ai e5 (ai e6 (ai e7 (ai e8 e9)))))))) ?_;exact⟨_,le_refl _,by rw[res _ e9 (by decide)];rfl⟩
 refine hr [115,101,108,102] (fun e10=>?_) fun e10=>?_
 ·refine azf (ai e1 (ai e2 (ai e3 (ai e4 (ai e5 (ai e6 (ai e7 (ai e8 (ai e9 e10))))))))) ?_;exact⟨_,le_refl _,by rw[res _ e10 (by decide)];rfl⟩
 refine hr [99,104,97,110,103,101] (fun e11=>?_) fun e11=>?_
 ·refine azf (ai e1 (ai e2 (ai e3 (ai e4 (ai e5 (ai e6 (ai e7 (ai e8 (ai e9 (ai e10 e11)))))))))) ?_;exact⟨_,le_refl _,by rw[res _ e11 (by decide)];rfl⟩
 have hres:Adr.reserved s=false:=by
  have h1:=Zw.1 e1;have h2:=Zw.1 e2;have h3:=Zw.1 e3;have h4:=Zw.1 e4;have h5:=Zw.1 e5;have h6:=Zw.1 e6;have h7:=Zw.1 e7;have h8:=Zw.1 e8;have h9:=Zw.1 e9;have h10:=Zw.1 e10;have h11:=Zw.1 e11;unfold Adr.reserved;rw[YJ];intro hc;rw[Zai]at hc;unfold Adr.reservedL at hc;simp only[ZJ,List.not_mem_nil,or_false]at hc;rcases hc with e|e|e|e|e|e|e|e|e|e|e<;>simp_all
 rw[hk,hres];refine azf (ai e1 (ai e2 (ai e3 (ai e4 (ai e5 (ai e6 (ai e7 (ai e8 (ai e9 (ai e10 e11)))))))))) ?_;refine use (hi _) ?_;refine azf ti ?_;exact⟨_,le_refl _,by simp[azn]⟩
theorem cjw(r:Adr.Rd)(hl:r.rest.length≤2000000){h:Hp}{i:Nat}(hb:h.b[i]?=some (adB r)):
  AC 107 [.ptr i 0] h fun v h'=>v=.str (Adr.wordP r).1∧h'=⟨h.b.set i (adB (Adr.wordP r).2),h.t⟩:=by
 have key:AC 107 [.ptr 0 0] ⟨[adB r],[]⟩ fun v h'=>∃b',h'.b[0]?=some b'∧v=.str (Adr.wordP r).1∧b'=adB (Adr.wordP r).2:=by
  obtain⟨rest,bad⟩:=r;dsimp only at hl;refine azb mixedT dvq (by simp[bw2]) ?_;dsimp only[bw2];unfold adB;have hW:Adr.wordP ⟨rest,bad⟩=(rest.takeWhile (fun c=>!Adr.stopB c),⟨rest.dropWhile (fun c=>!Adr.stopB c),bad||!Adr.ident (rest.takeWhile (fun c=>!Adr.stopB c))⟩):=rfl;rw[hW];have hi:=fun(s:List UInt8) (hs:s.length≤2000000) h=>aw4 s hs h
  refine azf ti ?_;refine use (cxu rest hl _) ?_;rcases Adr.indexAny_word rest with⟨h1,h2,h3⟩|⟨n,h1,h2,h3,h4⟩
  ·rw[h1,h2,h3];have lm:(-1:Int)<0:=by decide
   have l0:(0:Int)≤(rest.length:Int):=by omega
   have td:rest.drop rest.length=[]:=List.drop_length;cases bad
   ·refine azf (ai lm (ai l0 td)) ?_;refine use (hi rest hl _) ?_;refine azf ti ?_;exact⟨_,le_refl _,_,rfl,rfl,rfl⟩
   ·refine azf (ai lm (ai l0 td)) ?_;exact⟨_,le_refl _,_,rfl,rfl,rfl⟩
  ·rw[h1,h3,h4];have lm:¬(n:Int)<0:=by omega
   have l0:(0:Int)≤(n:Int):=by omega
   have l1:(n:Int)≤(rest.length:Int):=by omega
   have ht:(rest.take n).length≤2000000:=by rw[Zk];omega
   cases bad
   ·refine azf (ai lm (ai l0 l1)) ?_;refine use (hi _ ht _) ?_;refine azf ti ?_;exact⟨_,le_refl _,_,rfl,rfl,rfl⟩
   ·refine azf (ai lm (ai l0 l1)) ?_;exact⟨_,le_refl _,_,rfl,rfl,rfl⟩
 refine(ACall.lift1 key rfl (aq9 r) ?_ hb).mono ?_
 ·rintro v b' ⟨rfl,rfl⟩;exact⟨rfl,aq9 _⟩
 ·rintro v h' ⟨b',⟨rfl,rfl⟩,rfl⟩;exact⟨rfl,rfl⟩
def Adr.K.A(k:Adr.K):A:=.agg [.int .i64 k.kind,.int .i64 k.num,.str k.str]
theorem bx6(k:Adr.K)(hs:k.str.length≤2000000)(h:Hp):AT 199 [Adr.K.A k] h (.bool (Adr.keyOk k)):=by
 obtain⟨kd,nm,st⟩:=k;dsimp only at hs;unfold Adr.K.A;refine pcall ?_ rfl (by simp[A.pure,A.data]) h;refine azb mixedT cw8 (by simp[bxa]) ?_;dsimp only[bxa];have hv:=fun h=>cjt st hs h
 have hK:Adr.keyOk ⟨kd,nm,st⟩=if kd=1 then decide (0≤nm)&&decide (nm≤9007199254740992)&&st == []else if kd=2 then nm==0&&Str.valid st else(⟨kd,nm,st⟩:Adr.K)==Adr.K.none:=rfl
 rw[hK];by_cases k0:kd=0
 ·subst k0;have e0:((0:Int)==0)=true:=by decide
  rw[if_neg (by decide),if_neg (by decide)];have hn:((⟨0,nm,st⟩:Adr.K)==Adr.K.none)=(nm==0&&st == []):=by
   rw[Z4,ZC,Zf,ZC,ZC];unfold Adr.K.none;simp
  refine azf e0 ?_;exact⟨_,le_refl _,by rw[hn];simp[azn]⟩
 have e0:(kd==0)=false:=by simp[k0]
 by_cases k1:kd=1
 ·subst k1;have e1:((1:Int)==1)=true:=by decide
  have e10:((1:Int)==0)=false:=by decide
  rw[if_pos rfl];by_cases n0:0≤nm
  ·have g0:nm≥0:=n0;by_cases n1:nm≤9007199254740992
   ·refine azf (ai e10 (ai e1 (ai g0 n1))) ?_;exact⟨_,le_refl _,by rw[Yh n0,Yh n1];rfl⟩
   ·refine azf (ai e10 (ai e1 (ai g0 n1))) ?_;exact⟨_,le_refl _,by rw[Ys n1,YY];rfl⟩
  ·have g0:¬nm≥0:=n0;refine azf (ai e10 (ai e1 g0)) ?_;exact⟨_,le_refl _,by rw[Ys n0];rfl⟩
 have e1:(kd==1)=false:=by simp[k1]
 rw[if_neg k1];by_cases k2:kd=2
 ·subst k2;have e20:((2:Int)==0)=false:=by decide
  have e21:((2:Int)==1)=false:=by decide
  have e2:((2:Int)==2)=true:=by decide
  rw[if_pos rfl];cases hn:nm==0
  ·refine azf (ai e20 (ai e21 (ai e2 hn))) ?_;exact Fn rfl
  ·refine azf (ai e20 (ai e21 (ai e2 hn))) ?_;refine use (hv _) ?_;refine azf (ai e20 (ai e21 (ai e2 hn))) ?_;exact Fn rfl
 have e2:(kd==2)=false:=by simp[k2]
 rw[if_neg k2];have hn:((⟨kd,nm,st⟩:Adr.K)==Adr.K.none)=false:=by
  rw[Zw];unfold Adr.K.none;intro e;injection e with e _ _;exact k0 e
 rw[hn];refine azf (ai e0 (ai e1 e2)) ?_;exact Fn rfl
end AX
end
section
open Go.RowKit
namespace Str
theorem one_width(l:List UInt8)(hl:l≠[])(h:(one l).2.2=0):(one l).2.1≤l.length:=by
 have hp:=Z9.2 hl;by_cases h92:l.getD 0 0=92
 ·obtain⟨⟨c,n,e⟩,he⟩:=Ex (escp (l.drop 1));have h1:=one_esc l h92 c n e he;rw[h1]at h⊢;by_cases h0:e=0
  ·rw[if_neg (by simp[h0])];have:=escp_len (l.drop 1) (by rw[he];exact h0);rw[he,Zo]at this;dsimp only at this⊢;omega
  ·rw[if_pos h0]at h;exact absurd h h0
 ·obtain⟨⟨c,n⟩,hd⟩:=Ex (Lib.decodeL l);have hc:c≠92:=by
   rcases dec_cases l with⟨q1,q2⟩|⟨q1,q2⟩
   ·rw[hd]at q2;injection q2 with q2 q3;intro e;apply h92;rw[←Ym];have:(l.getD 0 0).toNat=92:=by omega
    simpa using this
   ·rw[hd]at q2;dsimp only at q2;omega
  by_cases hbad:(c=65533∧n=1)∨c<32∨c=127
  ·rw[one_bad l c n hd hc hbad]at h;simp at h
  ·rw[one_ok l hl c n hd hc hbad];have:=Lib.decodeL_le l hl;rw[hd]at this;exact this
theorem unq_width:∀(f:Nat) (l acc:List UInt8) (i N:Nat),i+l.length=N→(unq f l acc i).2.2=0→(unq f l acc i).2.1≤N
 |0,l,acc,i,N,hN,h=>by
  unfold unq at h⊢;simp at h⊢
 |f+1,l,acc,i,N,hN,h=>by
  unfold unq at h⊢;split
  ·next h1=>rw[if_pos h1]at h;simp at h
  ·next h1=>
   rw[if_neg h1]at h;have hp:=Z9.2 h1;split
   ·next h2=>
    rw[if_pos h2]at h;split
    ·exact Zq _
    ·dsimp only;omega
   ·next h2=>
    rw[if_neg h2]at h;split
    ·exact Zq _
    ·next h3=>
     rw[if_neg h3]at h;have:=one_width l h1 (by simpa using h3);exact unq_width f _ _ _ N (by rw[Zo];omega) h
theorem unquote_width(l:List UInt8)(h:(unquote l).2.2=0):(unquote l).2.1≤l.length:=by
 unfold unquote at h⊢;split
 ·exact Zq _
 ·next h1=>
  rw[if_neg h1]at h;split
  ·exact Zq _
  ·next h2=>
   rw[if_neg h2]at h;have hp:=Z9.2 h1;exact unq_width _ _ _ _ l.length (by rw[Zo];omega) h
end Str
namespace AX
def byr:AX.AFn:=⟨11,aS [aR 2 (.alloc 135 [.str [],.int .i64 0,.int .i64 0,.str []])] (aS [aM 4 0,aR 5 (.call 107 [.t 4]),aR 6 (.build [.str [],.int .i64 0,.int .i64 0,.str []] [(0,1,.t 5)]),aR 3 (.alloc 135 [.str [],.int .i64 0,.int .i64 0,.str []]),aU (.store 4 (.t 3) (.t 6))] (aS [aM 7 0,aR 8 (.call 108 [.t 7]),aF 9 1 3,aU (.store 3 (.t 9) (.t 8))] (aS [aR 10 (.load true 4 (.t 3)),aU (.store 4 (.t 2) (.t 10))] (.ret)))),[.c 2 true 4]⟩
theorem djy:AX.compFn Tryz.prog 105=some byr:=by kernel_rfl
theorem cx6{w:World}(g:GT w):Glob w:=⟨g.tabs,g.tz⟩
theorem cvb(s:List UInt8)(hs:s.length≤2000000)(h:Hp):AT 145 [.str s] h (.tup [.str (Str.unquote s).1,.int .i64 (Str.unquote s).2.1,.int .i64 (Str.unquote s).2.2]):=
 azx (av9 ajr) (fun w hg=>bwp ⟨s.toArray⟩ w (by rw[size_mk];exact hs) (cx6 hg)) (fun C=>rep_tup.2 ⟨_,rfl,repL_cons.2 ⟨_,_,rfl,rep_str.2 rfl,repL_cons.2 ⟨_,_,rfl,rep_int.2 rfl,repL_cons.2 ⟨_,_,rfl,rep_int.2 rfl,repL_nil.2 rfl⟩⟩⟩⟩) h
theorem dvj(s:List UInt8)(hs:s.length≤2000000)(h:Hp):AT 146 [.str s] h (.str (Str.quote s)):=
 azx (av9 ajr) (fun w hg=>cwf ⟨s.toArray⟩ w (by rw[size_mk];exact hs) (cx6 hg)) (fun C=>rep_str.2 rfl) h
theorem cxt(s p:List UInt8):(decide (p.length≤s.length)&&s.take p.length==p)=Adr.begins s p:=by
 unfold Adr.begins;rw[Z4,Zad,List.prefix_iff_eq_take,Zf,ZD,ZC];constructor
 ·rintro⟨h1,h2⟩;exact h2.symm
 ·intro h2;exact⟨by have:=congrArg List.length h2;rw[Zk]at this;omega,h2.symm⟩
theorem dkp(r:Adr.Rd)(hl:r.rest.length≤2000000){h:Hp}{i:Nat}(hb:h.b[i]?=some (adB r)):
  AC 108 [.ptr i 0] h fun v h'=>v=Adr.K.A (Adr.keyP r).1∧h'=⟨h.b.set i (adB (Adr.keyP r).2),h.t⟩:=by
 have key:AC 108 [.ptr 0 0] ⟨[adB r],[]⟩ fun v h'=>∃b',h'.b[0]?=some b'∧v=Adr.K.A (Adr.keyP r).1∧b'=adB (Adr.keyP r).2:=by
  refine fo ?_;have hh:=fun h hb=>dqo [91] r (h:=h) (i:=0) hb
  obtain⟨Z,hZ⟩:=Ex (Adr.keyP r);rw[hZ];unfold Adr.keyP at hZ;unfold Adr.hasP at hh;unfold adB at hh⊢;obtain⟨rest,bad⟩:=r;dsimp only at hl hh hZ;cases bad;rotate_left
  ·rw[if_pos rfl]at hZ;subst hZ;refine azf ti ?_;exact⟨_,le_refl _,_,rfl,rfl,rfl⟩
  rw[if_neg (by decide)]at hZ;refine azf ti ?_;refine use (hh _ rfl) ?_;cases hB:Adr.begins rest [91]
  ·rw[hB,if_pos rfl]at hZ;subst hZ;refine azf ti ?_;exact⟨_,le_refl _,_,rfl,rfl,rfl⟩
  rw[hB,if_neg (by decide)]at hZ;obtain⟨t,ht⟩:=Ex (rest.drop 1);have ht1:rest.drop [91].length=t:=ht;have htl:t.length≤2000000:=by rw[←ht,Zo];omega
  rw[ht]at hZ;have hp:=fun h=>bwf t [34] h
  rw[cxt]at hp;have hu:=fun h=>cvb t htl h
  have hsk:=fun(q:Adr.Rd) h hb=>cjm [93] q (h:=h) (i:=0) hb
  unfold adB at hsk;refine azf (ai ht1 ht) ?_;refine use (hp _) ?_;cases hQ:Adr.begins t [34]
  ·rw[hQ,if_neg (by decide)]at hZ;refine azf ti ?_;refine use (byn t _) ?_;have hk:=Adr.indexByte_key t;obtain⟨n,hn,hnle,hix⟩:∃n:Nat,(if t.all (· != 93)then 0 else(t.takeWhile (· != 93)).length)=n∧n≤t.length∧(Lib.indexByte t 93=(n:Int)∨(Lib.indexByte t 93=-1∧n=0)):=by
    rcases hk with⟨k1,k2⟩|⟨k1,k2,k3⟩
    ·exact⟨0,by rw[if_pos k1],Zq _,.inr ⟨k2,rfl⟩⟩
    ·exact⟨_,by rw[k1,if_neg (by decide)],k3,.inl k2⟩
   rw[hn]at hZ;have hmax:(if(0:Int)>Lib.indexByte t 93 then 0 else Lib.indexByte t 93)=(n:Int):=by
    rcases hix with e|⟨e,e2⟩
    ·rw[e,if_neg (by omega)]
    ·rw[e,e2];rfl
   have htk:(t.take n).length≤2000000:=by rw[Zk];omega
   have hnp:=fun h=>a_numParse (t.take n) htk h
   have l0:(0:Int)≤(n:Int):=by omega
   have l1:(n:Int)≤(t.length:Int):=by omega
   obtain⟨⟨x,e⟩,hx⟩:=Ex (Num.parse (t.take n));rw[hx]at hnp hZ;dsimp only at hnp hZ;refine azf (ai hmax (ai l0 l1)) ?_;refine use (hnp _) ?_;have hbad:=Ex ((e !=0||decide (x<0)));obtain⟨b,hb⟩:=hbad;rw[hb]at hZ;subst hZ;by_cases he:e=0
   ·have e1:(e !=0)=false:=by simp[he]
    rw[e1,Yn]at hb;refine azf (ai e1 (ai hb (ai l0 l1))) ?_;refine use (hsk ⟨t.drop n,b⟩ _ rfl) ?_;refine azf ti ?_;exact⟨_,le_refl _,_,rfl,rfl,rfl⟩
   ·have e1:(e !=0)=true:=by simp[he]
    rw[e1,YT]at hb;subst hb;refine azf (ai e1 (ai l0 l1)) ?_;refine use (hsk ⟨t.drop n,true⟩ _ rfl) ?_;refine azf ti ?_;exact⟨_,le_refl _,_,rfl,rfl,rfl⟩
  ·rw[hQ,if_pos rfl]at hZ;refine azf ti ?_;refine use (hu _) ?_;have hw:=Str.unquote_width t;have hv:=Str.unquote_valid t;obtain⟨⟨us,un,ue⟩,hue⟩:=Ex (Str.unquote t);rw[hue]at hZ hw hv⊢;dsimp only at hZ hw hv⊢;by_cases he:ue=0
   rotate_left
   ·have e1:(ue !=0)=true:=by simp[he]
    rw[if_pos (.inl he)]at hZ;subst hZ;refine azf e1 ?_;exact⟨_,le_refl _,_,rfl,rfl,rfl⟩
   have e1:(ue !=0)=false:=by simp[he]
   have hul:us.length≤2000000:=by
    have:=hv he;unfold Str.valid at this;rw[Zf,ZD]at this;omega
   have l1:(un:Int)≤(t.length:Int):=by have:=hw he;omega
   have l0:(0:Int)≤(un:Int):=by omega
   refine azf (ai e1 (ai l0 l1)) ?_;refine use (dvj us hul _) ?_;cases hne:Str.quote us !=t.take un
   ·rw[if_neg (by rintro(h|h);exact h he;rw[bne_eq_false_iff_eq]at hne;exact h hne)]at hZ;subst hZ;refine azf (ai e1 (ai hne (ai l0 l1))) ?_;refine use (hsk ⟨t.drop un,false⟩ _ rfl) ?_;refine azf ti ?_;exact⟨_,le_refl _,_,rfl,rfl,rfl⟩
   ·rw[if_pos (.inr (Y5.1 hne))]at hZ;subst hZ;refine azf (ai e1 (ai hne (ai l0 l1))) ?_;exact⟨_,le_refl _,_,rfl,rfl,rfl⟩
 refine(ACall.lift1 key rfl (aq9 r) ?_ hb).mono ?_
 ·rintro v b' ⟨rfl,rfl⟩;exact⟨rfl,aq9 _⟩
 ·rintro v h' ⟨b',⟨rfl,rfl⟩,rfl⟩;exact⟨rfl,rfl⟩
end AX
namespace Adr
theorem has_len(p:List UInt8)(r:Rd):(hasP p r).2.rest.length≤r.rest.length:=by
 unfold hasP;split
 ·rw[Zo];omega
 ·exact Zh _
theorem has_less(p:List UInt8)(r:Rd)(h:begins r.rest p=true):(hasP p r).2.rest.length+p.length=r.rest.length:=by
 have:=begins_len h;unfold hasP;rw[if_pos h];dsimp only;rw[Zo];omega
theorem takeW_len{p:UInt8→Bool}(s:List UInt8):(s.takeWhile p).length≤s.length:=List.Sublist.length_le (List.takeWhile_sublist p)
theorem dropW_len{p:UInt8→Bool}(s:List UInt8):(s.dropWhile p).length≤s.length:=List.Sublist.length_le (List.dropWhile_sublist p)
theorem word_len(r:Rd):(wordP r).2.rest.length≤r.rest.length∧(wordP r).1.length≤r.rest.length:=⟨dropW_len _,takeW_len _⟩
theorem skip_len(p:List UInt8)(r:Rd):(skipP p r).rest.length≤r.rest.length:=by
 unfold skipP;split
 ·dsimp only;rw[Zo];omega
 ·exact Zh _
theorem key_len(r:Rd):(keyP r).2.rest.length≤r.rest.length:=by
 unfold keyP;split
 ·exact Zh _
 ·split
  ·exact Zh _
  ·dsimp only;split
   ·split
    ·dsimp only;rw[Zo];omega
    ·refine Zs (skip_len _ _) ?_;dsimp only;rw[Zo,Zo];omega
   ·refine Zs (skip_len _ _) ?_;dsimp only;rw[Zo,Zo];omega
theorem step_len(r:Rd):(stepP r).2.rest.length≤r.rest.length:=Zs (key_len _) (word_len r).1
end Adr
namespace AX
theorem dv6(r:Adr.Rd)(hl:r.rest.length≤2000000){h:Hp}{i:Nat}(hb:h.b[i]?=some (adB r)):
  AC 105 [.ptr i 0] h fun v h'=>v=.agg (Adr.stepP r).1.cells∧h'=⟨h.b.set i (adB (Adr.stepP r).2),h.t⟩:=by
 have key:AC 105 [.ptr 0 0] ⟨[adB r],[]⟩ fun v h'=>∃b',h'.b[0]?=some b'∧v=.agg (Adr.stepP r).1.cells∧b'=adB (Adr.stepP r).2:=by
  refine azb mixedT djy (by simp[byr]) ?_;dsimp only[byr];have hw:=fun h hb=>cjw r hl (h:=h) (i:=0) hb
  have hk:=fun h hb=>dkp (Adr.wordP r).2 (Zs (Adr.word_len r).1 hl) (h:=h) (i:=0) hb
  have hS:Adr.stepP r=(⟨(Adr.wordP r).1,(Adr.keyP (Adr.wordP r).2).1⟩,(Adr.keyP (Adr.wordP r).2).2):=rfl;rw[hS];obtain⟨⟨w,r1⟩,h1⟩:=Ex (Adr.wordP r);rw[h1]at hw hk⊢;dsimp only at hw hk⊢;obtain⟨⟨⟨kd,kn,ks⟩,r2⟩,h2⟩:=Ex (Adr.keyP r1);rw[h2]at hk⊢;dsimp only[Adr.K.A]at hk⊢;unfold adB at hw hk⊢;refine azf ti ?_;refine use (hw _ rfl) ?_;refine azf ti ?_;refine use (hk _ rfl) ?_;refine azf ti ?_;exact⟨_,le_refl _,_,rfl,rfl,rfl⟩
 refine(ACall.lift1 key rfl (aq9 r) ?_ hb).mono ?_
 ·rintro v b' ⟨rfl,rfl⟩;exact⟨rfl,aq9 _⟩
 ·rintro v h' ⟨b',⟨rfl,rfl⟩,rfl⟩;exact⟨rfl,rfl⟩
theorem ck0(s:List UInt8)(hs:s.length≤2000000)(h:Hp):AT 60 [.str s] h (.tup [.agg (Adr.parse s).1.cells,.int .i64 (Adr.parse s).2]):=by
 rw[←Adr.parse_eq];refine pcall ?_ rfl (by simp[A.pure,A.data]) h;refine fo ?_;obtain⟨⟨M,RM⟩,hM⟩:=Ex (Adr.modsP (s.length+1) ⟨s,false⟩ []);obtain⟨F,hF⟩:=Ex (Adr.parseP s);rw[hF];unfold Adr.parseP at hF;rw[hM]at hF;dsimp only at hF;refine azf ti ?_
 refine azd (fun mm ts h=>∃(r:Adr.Rd) (l:List Adr.Step) (W:Nat) (o:Own) (t:List (TypeId×Nat×Nat)),r.rest.length<mm∧mm+l.length=s.length+1∧Adr.modsP mm r l=(M,RM) ∧
  h=⟨[.cells 105 [.sl 0 .nil [],.bool false,.str [],.str [],.int .i64 0,.int .i64 0,.str []],.cells 133 [.str r.rest,.bool r.bad],.cells 105 [.sl W o (l.map Adr.Step.cells),.bool false,.str [],.str [],.int .i64 0,.int .i64 0,.str []]],t⟩ ∧
  Gs 135 4 0 ⟨[],t⟩ (l.map Adr.Step.cells) (.sl W o (l.map Adr.Step.cells))∧ts 2=.ptr 0 0∧ts 3=.int .i64 0∧ts 4=.ptr 1 0∧ts 5=.ptr 2 0) (s.length+1) ?_ ?_
 ·exact⟨⟨s,false⟩,[],0,.nil,[],by dsimp only;omega,by simp,hM,rfl,.inl ⟨rfl,rfl⟩,by(exact ev0 ti),by(exact ev0 ti),by(exact ev0 ti),by(exact ev0 ti)⟩
 rintro mm ts h ⟨r,l,W,o,t,hrm,hml,hmod,rfl,gX,t2,t3,t4,t5⟩;cases mm with
 |zero=>omega
 |succ f=>
 unfold Adr.modsP at hmod;by_cases hgo:r.bad=false∧Adr.begins r.rest Adr.modW=true
 ·rw[if_pos hgo]at hmod;have hmw:Adr.modW=[109,111,100,117,108,101,46]:=rfl;have cH:=fun h hb=>dqo Adr.modW r (h:=h) (i:=1) hb
  have l1:=Adr.has_less Adr.modW r hgo.2;have hh1:(Adr.hasP Adr.modW r).1=true:=by unfold Adr.hasP;rw[if_pos hgo.2]
  rw[hh1]at cH;have l7:Adr.modW.length=7:=rfl;have hr0:r.bad=false:=hgo.1;obtain⟨r1,hr1⟩:=Ex ((Adr.hasP Adr.modW r).2);rw[hr1]at cH l1 hmod;have cS:=fun h hb=>dv6 r1 (by omega) (h:=h) (i:=1) hb
  have l2:=Adr.step_len r1;obtain⟨⟨⟨nm,⟨kd,kn,ks⟩⟩,r2⟩,hr2⟩:=Ex (Adr.stepP r1);rw[hr2]at cS l2 hmod;dsimp only[Adr.Step.cells]at cS l2 hmod;have cK:=fun h hb=>cjm [46] r2 (h:=h) (i:=1) hb
  have l3:=Adr.skip_len [46] r2;obtain⟨r3,hr3⟩:=Ex (Adr.skipP [46] r2);rw[hr3]at cK l3 hmod;unfold adB at cH cS cK;rw[hmw]at cH;rw[hr0]at cH;obtain⟨W',o',t',hX,gX',_⟩:=gX.grow 48 [.str nm,.int .i64 kd,.int .i64 kn,.str ks] (by rw[Zj];omega) (by decide);have hcat:l.map Adr.Step.cells++[[.str nm,.int .i64 kd,.int .i64 kn,.str ks]]=(l++[(⟨nm,⟨kd,kn,ks⟩⟩:Adr.Step)]).map Adr.Step.cells:=by rw[YF];rfl
  rw[hcat]at gX';simp only[hcat]at hX;rw[hr0];refine azf (ai t2 (ai t3 (ai t4 t5))) ?_;refine use (cH _ rfl) ?_;refine azf (ai t2 (ai t3 (ai t4 t5))) ?_;refine use (cS _ rfl) ?_;refine azf (ai t2 (ai t3 (ai t4 (ai t5 hX)))) ?_;refine use (cK _ rfl) ?_;refine azf (ai t2 (ai t3 (ai t4 t5))) ?_;exact⟨f,by omega,r3,l++[(⟨nm,⟨kd,kn,ks⟩⟩:Adr.Step)],W',o',t',by omega,by simp;omega,hmod,rfl,gX',by(exact ev0 t2),by(exact ev0 t3),by(exact ev0 t4),by(exact ev0 t5)⟩
 ·rw[if_neg hgo]at hmod;injection hmod with hm1 hm2;subst hm1;subst hm2;have cD:=fun h hb=>dqo Adr.dataW r (h:=h) (i:=1) hb
  have l1:=Adr.has_len Adr.dataW r;obtain⟨⟨dt,r1⟩,hr1⟩:=Ex (Adr.hasP Adr.dataW r);rw[hr1]at cD l1 hF;dsimp only at cD l1 hF;have cT:=fun h hb=>cjw r1 (by omega) (h:=h) (i:=1) hb
  have l2:=Adr.word_len r1;obtain⟨⟨ty,r2⟩,hr2⟩:=Ex (Adr.wordP r1);rw[hr2]at cT l2 hF;dsimp only at cT l2 hF;have cK:=fun h hb=>cjm [46] r2 (h:=h) (i:=1) hb
  have l3:=Adr.skip_len [46] r2;obtain⟨r3,hr3⟩:=Ex (Adr.skipP [46] r2);rw[hr3]at cK l3 hF;have cN:=fun h hb=>cjw r3 (by omega) (h:=h) (i:=1) hb
  have l4:=Adr.word_len r3;obtain⟨⟨na,r4⟩,hr4⟩:=Ex (Adr.wordP r3);rw[hr4]at cN l4 hF;dsimp only at cN l4 hF;have cY:=fun h hb=>dkp r4 (by omega) (h:=h) (i:=1) hb
  have l5:=Adr.key_len r4;obtain⟨⟨⟨kd,kn,ks⟩,⟨re,ba⟩⟩,hr5⟩:=Ex (Adr.keyP r4);rw[hr5]at cY l5 hF;dsimp only[Adr.K.A]at cY l5 hF;have ck:=fun h=>dqv ty (by omega) h
  unfold adB at cD cT cK cN cY;have hdw:Adr.dataW=[100,97,116,97,46]:=rfl;rw[hdw]at cD;have start:∀{G:Prop},(r.bad=true→G)→(r.bad=false→Adr.begins r.rest Adr.modW=false→G)→G:=fun p q=>by
   cases hb:r.bad
   ·refine q hb ?_;cases hB:Adr.begins r.rest Adr.modW
    ·rfl
    ·exact absurd ⟨hb,hB⟩ hgo
   ·exact p hb
  have lx:=Gs.le gX;refine start (fun hb=>?_) (fun hb hB=>?_)
  ·rw[hb]at cD⊢;refine azf (ai t2 (ai t3 (ai t4 t5))) ?_;refine use (cD _ rfl) ?_;refine azf (ai t2 (ai t3 (ai t4 t5))) ?_;refine use (cT _ rfl) ?_;refine azf (ai t2 (ai t3 (ai t4 t5))) ?_;refine use (cK _ rfl) ?_;refine azf (ai t2 (ai t3 (ai t4 t5))) ?_;refine use (cN _ rfl) ?_;refine azf (ai t2 (ai t3 (ai t4 t5))) ?_;refine use (cY _ rfl) ?_;have zle:leL [.sl 0 .nil [],.bool false,.str [],.str [],.int .i64 0,.int .i64 0,.str []] Adr.Ad.zero.cells:=⟨⟨rfl,.inr rfl,.inl rfl⟩,rfl,rfl,rfl,rfl,rfl,rfl,trivial⟩;cases ba;rotate_left
   ·rw[if_pos (.inl rfl)]at hF;subst hF;refine azf (ai t2 (ai t3 (ai t4 t5))) ?_;exact⟨.tup [.agg Adr.Ad.zero.cells,.int .i64 2],⟨zle,rfl,trivial⟩,rfl⟩
   cases hre:re != [];rotate_left
   ·rw[if_pos (.inr (.inl (Y5.1 hre)))]at hF;subst hF;refine azf (ai t2 (ai t3 (ai t4 (ai t5 hre)))) ?_;exact⟨.tup [.agg Adr.Ad.zero.cells,.int .i64 2],⟨zle,rfl,trivial⟩,rfl⟩
   refine azf (ai t2 (ai t3 (ai t4 (ai t5 hre)))) ?_;refine use (ck _) ?_;cases hkb:Adr.kindB ty
   ·rw[if_pos (.inr (.inr hkb))]at hF;subst hF;refine azf (ai t2 (ai t3 (ai t4 t5))) ?_;exact⟨.tup [.agg Adr.Ad.zero.cells,.int .i64 2],⟨zle,rfl,trivial⟩,rfl⟩
   rw[if_neg (by rintro(h|h|h);cases h;rw[bne_eq_false_iff_eq]at hre;exact h hre;rw[hkb]at h;cases h)]at hF;have lm:(l.map Adr.Step.cells).length=l.length:=Zj ..;by_cases hlen:(l.length:Int)>16
   ·rw[if_pos (by omega)]at hF;subst hF;refine azf (ai t2 (ai t3 (ai t4 (ai t5 (ai lm hlen))))) ?_;exact⟨.tup [.agg Adr.Ad.zero.cells,.int .i64 4],⟨zle,rfl,trivial⟩,rfl⟩
   ·rw[if_neg (by omega)]at hF;subst hF;refine azf (ai t2 (ai t3 (ai t4 (ai t5 (ai lm hlen))))) ?_;exact⟨.tup [.agg (Adr.Ad.cells ⟨l,dt,ty,na,⟨kd,kn,ks⟩⟩),.int .i64 0],⟨⟨lx,rfl,rfl,rfl,rfl,rfl,rfl,trivial⟩,rfl,trivial⟩,rfl⟩
  ·rw[hb]at cD⊢;have cH:=fun h hb=>dqo Adr.modW r (h:=h) (i:=1) hb
   have hh1:Adr.hasP Adr.modW r=(false,r):=by unfold Adr.hasP;rw[hB,if_neg (by decide)]
   have hmw:Adr.modW=[109,111,100,117,108,101,46]:=rfl;rw[hh1,hmw]at cH;unfold adB at cH;rw[hb]at cH;refine azf (ai t2 (ai t3 (ai t4 t5))) ?_;refine use (cH _ rfl) ?_;refine azf (ai t2 (ai t3 (ai t4 t5))) ?_;refine use (cD _ rfl) ?_;refine azf (ai t2 (ai t3 (ai t4 t5))) ?_;refine use (cT _ rfl) ?_;refine azf (ai t2 (ai t3 (ai t4 t5))) ?_;refine use (cK _ rfl) ?_;refine azf (ai t2 (ai t3 (ai t4 t5))) ?_;refine use (cN _ rfl) ?_;refine azf (ai t2 (ai t3 (ai t4 t5))) ?_;refine use (cY _ rfl) ?_;have zle:leL [.sl 0 .nil [],.bool false,.str [],.str [],.int .i64 0,.int .i64 0,.str []] Adr.Ad.zero.cells:=⟨⟨rfl,.inr rfl,.inl rfl⟩,rfl,rfl,rfl,rfl,rfl,rfl,trivial⟩;cases ba;rotate_left
   ·rw[if_pos (.inl rfl)]at hF;subst hF;refine azf (ai t2 (ai t3 (ai t4 t5))) ?_;exact⟨.tup [.agg Adr.Ad.zero.cells,.int .i64 2],⟨zle,rfl,trivial⟩,rfl⟩
   cases hre:re != [];rotate_left
   ·rw[if_pos (.inr (.inl (Y5.1 hre)))]at hF;subst hF;refine azf (ai t2 (ai t3 (ai t4 (ai t5 hre)))) ?_;exact⟨.tup [.agg Adr.Ad.zero.cells,.int .i64 2],⟨zle,rfl,trivial⟩,rfl⟩
   refine azf (ai t2 (ai t3 (ai t4 (ai t5 hre)))) ?_;refine use (ck _) ?_;cases hkb:Adr.kindB ty
   ·rw[if_pos (.inr (.inr hkb))]at hF;subst hF;refine azf (ai t2 (ai t3 (ai t4 t5))) ?_;exact⟨.tup [.agg Adr.Ad.zero.cells,.int .i64 2],⟨zle,rfl,trivial⟩,rfl⟩
   rw[if_neg (by rintro(h|h|h);cases h;rw[bne_eq_false_iff_eq]at hre;exact h hre;rw[hkb]at h;cases h)]at hF;have lm:(l.map Adr.Step.cells).length=l.length:=Zj ..;by_cases hlen:(l.length:Int)>16
   ·rw[if_pos (by omega)]at hF;subst hF;refine azf (ai t2 (ai t3 (ai t4 (ai t5 (ai lm hlen))))) ?_;exact⟨.tup [.agg Adr.Ad.zero.cells,.int .i64 4],⟨zle,rfl,trivial⟩,rfl⟩
   ·rw[if_neg (by omega)]at hF;subst hF;refine azf (ai t2 (ai t3 (ai t4 (ai t5 (ai lm hlen))))) ?_;exact⟨.tup [.agg (Adr.Ad.cells ⟨l,dt,ty,na,⟨kd,kn,ks⟩⟩),.int .i64 0],⟨⟨lx,rfl,rfl,rfl,rfl,rfl,rfl,trivial⟩,rfl,trivial⟩,rfl⟩
end AX
end
section
open Go.RowKit
namespace AX
section
variable {P:Program} {G:World→Prop} {C:Ctx} {h:Hp}
def Fz1(h:Hp)(x y:A):Prop:=(x=y∧x.data=true)∨∃i W T rows,x=.bs i W rows.length∧h.b[i]?=some (.row T rows.flatten)∧y=.sl W .no rows∧(∀r∈rows,r.length=W)∧rows.flatten.all A.data=true
def FzL(h:Hp):List A→List A→Prop
 |[],[]=>True
 |x::l,y::m=>Fz1 h x y∧FzL h l m
 |_,_=>False
theorem FzL.data{h:Hp}:∀{l m:List A},FzL h l m→m.all A.data=true
 |[],[],_=>rfl
 |x::l,y::m,hf=>by
  rw[ZM,Zf];refine⟨?_,FzL.data hf.2⟩;rcases hf.1 with⟨rfl,hd⟩|⟨i,W,T,rows,_,_,rfl,_,_⟩
  ·exact hd
  ·rfl
 |[],_::_,hf=>hf.elim
 |_::_,[],hf=>hf.elim
theorem pcallz{f:FuncId}{args:List A}{ys:List A}(hc:ACall P G f args ⟨[],[]⟩ fun v h'=>∃xs,v=.agg xs∧FzL h' xs ys)(ha:args.all A.pure=true)(h:Hp):ACall P G f args h fun v h'=>v=.agg ys∧h'=h:=by
 intro C cs hI hr;have hid:Inv G C.hid ⟨[],[]⟩:=by
  refine⟨rfl,fun i b hb=>by simp at hb,⟨fun i b hb=>by simp at hb,fun i j b b' hb=>by simp at hb⟩,fun g i hg=>by simp[Ctx.hid]at hg,fun g j hs=>?_,fun t E W m ht=>by simp[Ctx.hid]at ht,fun t t' ht=>by simp[Ctx.hid]at ht,fun t=>by simp[Ctx.hid],hI.base,hI.glob⟩;exact⟨(hI.prot g j hs).1,rfl,fun t E W m ht=>by simp[Ctx.hid]at ht⟩
 refine(hc C.hid cs hid (RepL.pures (C:=C) (C':=C.hid) ⟨fun g j hs=>⟨hs,rfl⟩⟩ args cs ha hr)).mono ?_;rintro e w' ⟨C1,h1,v,cv,rfl,rfl,I1,S1,r1,xs,rfl,hf⟩;have hblk:∀g,g<C.w.heap.size→C1.w.heap[g]?=C.w.heap[g]?:=fun g hg=>S1.frame g hg rfl fun t ht=>by simp[Ctx.hid]at ht
 have hnew:∀g i,C1.own g=some i→C.w.heap.size≤g:=fun g i hg=>by
  rcases Zr g C.w.heap.size with hlt|hge
  ·have:=S1.own g hlt;rw[hg]at this;simp[Ctx.hid]at this
  ·exact hge
 let C2:Ctx:={ C with w:=C1.w,S:=fun g j=>C1.S g j∨((C1.own g).isSome=true),own:=fun g=>if g<C.w.heap.size then C.own g else none }
 have hsz:C.w.heap.size≤C1.w.heap.size:=S1.size;have he:Ext C C2:=by
  refine⟨fun g j hs=>?_,Zh _,fun _ _=>⟨rfl,rfl,rfl⟩,fun t E W m ht=>?_⟩
  ·obtain⟨k1,k2⟩:=S1.ext.cells g j hs;exact⟨.inl k1,k2⟩
  ·obtain⟨_,_,cap,h2,_⟩:=hI.rows t E W m ht;exact⟨m,ht,.inr ⟨rfl,rfl,fun cap hc=>hc.same (hblk _ h2.lt)⟩⟩
 have hown:∀g i,C2.own g=some i↔C.own g=some i:=fun g i=>by
  show(if g<C.w.heap.size then C.own g else none)=some i↔_
  split
  ·exact Iff.rfl
  ·next hg=>exact⟨fun e=>(by cases e),fun e=>absurd (hI.ownlt g i e).2.1 hg⟩
 have hprot:∀g j,C2.S g j→C.S g j∨C.w.heap.size≤g:=fun g j hs=>by
  rcases hs with hs|hs
  ·rcases S1.prot g j hs with h2|h2|⟨t,h2,_⟩
   ·exact .inl h2
   ·exact .inr h2
   ·simp[Ctx.hid]at h2
  ·obtain⟨i,hi⟩:=Option.isSome_iff_exists.1 hs;exact .inr (hnew g i hi)
 have hSlt:∀g j,C2.S g j→g<C1.w.heap.size:=fun g j hs=>by
  rcases hs with hs|hs
  ·exact(I1.prot g j hs).1
  ·obtain⟨i,hi⟩:=Option.isSome_iff_exists.1 hs;exact(I1.ownlt g i hi).2.1
 have hsame:Same C1 C2:=⟨fun g j hs=>⟨.inl hs,rfl⟩⟩;have frz:∀(xs ys:List A) (vs:List Value),FzL h1 xs ys→RepL C1 xs vs→RepL C2 ys vs:=by
  intro xs;induction xs with
  |nil=>
   intro ys vs hf hr;cases ys with
   |nil=>exact hr
   |cons y ys=>exact hf.elim
  |cons x xs ih=>
   intro ys vs hf hr;cases ys with
   |nil=>exact hf.elim
   |cons y ys=>
    obtain⟨c,cs',rfl,k1,k2⟩:=repL_cons.1 hr;refine repL_cons.2 ⟨c,cs',rfl,?_,ih ys cs' hf.2 k2⟩;rcases hf.1 with⟨rfl,hd⟩|⟨i,W,T,rows,rfl,hb,rfl,hW,hd⟩
    ·exact Rep.same hsame _ _ hd k1
    ·obtain⟨cap,rfl,hcap,hi,_⟩:=rep_bs.1 k1;obtain⟨ds,rest,q1,q2,_⟩:=I1.box i _ hb;have hsd:(C1.own (C1.κ i)).isSome=true:=by rw[I1.ok hb rfl];rfl
     have hdd:∀(l:List A) (ds:List Value),l.all A.data=true→RepL C1 l ds→RepL C2 l ds:=fun l ds hd hr=>RepL.same hsame l ds hd hr
     refine rep_sl.2 ⟨_,cap,rfl,hcap,az2 rows ds 0 hW hd (hdd _ _ hd q2) (fun j _=> .inr hsd) (fun j u hu=>?_),trivial⟩;have q1':C2.w.heap[C1.κ i]?=some (.cells (ds++rest).toArray T (0,0)):=q1;rw[cell_of_row _ _ _ _ _ _ q1'];have hj:j<ds.length:=(Ze.1 hu).1;simp only[List.getElem?_toArray];rw[show 0+0*W+j=j by omega,ZB hj];exact hu
 refine⟨C2,h,.agg ys,cv,rfl,rfl,⟨hI.nb,fun i b hib=>?_,⟨fun i b hb hl=>(hown _ _).2 (hI.ok hb hl),hI.ownk.2⟩,fun g i hg=>?_,fun g j hs=>?_,fun t E W m ht=>?_,hI.inj,hI.toks,Zs hI.base hsz,fun w2 hw=>?_⟩,⟨he,S1.os,S1.tape,S1.output,hsz,rfl,fun g hg _ _=>hblk g hg,fun g hg=>?_,fun g j hs=>?_,fun t ht=> .inr ⟨ht,rfl⟩⟩,?_,rfl,rfl⟩
 ·have hi:i<C.nb:=by rw[←hI.nb];exact(Ze.1 hib).1
  exact(hI.box i b hib).ext he hi (fun hl=>⟨hI.ok hib hl,fun g hg=>hblk g (hI.ownlt g _ hg).2.1,fun g=>hown g _⟩) hsz
 ·obtain⟨k1,k2,k3⟩:=hI.ownlt g i ((hown g i).1 hg);exact⟨k1,ZA k2 hsz,k3⟩
 ·have hlt:=hSlt g j hs;rcases hprot g j hs with h2|h2
  ·obtain⟨k1,k2,k3⟩:=hI.prot g j h2;exact⟨hlt,by show(if g<C.w.heap.size then C.own g else none)=none;rw[if_pos k1,k2],k3⟩
  ·refine⟨hlt,by show(if g<C.w.heap.size then C.own g else none)=none;rw[if_neg (by omega)],fun t E W m ht e=>?_⟩;obtain⟨_,_,cap,k1,_⟩:=hI.rows t E W m ht;have:=k1.lt;have e':C.τ t=g:=e;omega
 ·obtain⟨k1,k2,cap,k3,k4⟩:=hI.rows t E W m ht;exact⟨by show(if C.τ t<C.w.heap.size then C.own (C.τ t)else none)=none;rw[if_pos k3.lt,k1],k2,cap,k3.same (hblk _ k3.lt),k4⟩
 ·exact hI.glob w2 fun g hg=>(hw g hg).trans (hblk g (ZA hg hI.base))
 ·show(if g<C.w.heap.size then C.own g else none)=C.own g
  rw[if_pos hg]
 ·rcases hprot g j hs with h2|h2
  ·exact .inl h2
  ·exact .inr (.inl h2)
 ·obtain⟨vs,rfl,hl⟩:=rep_agg.1 r1;exact rep_agg.2 ⟨vs,rfl,frz xs ys vs hf hl⟩
end
end AX
end
section
open Go.RowKit
theorem bk3(b off n c:Nat)(news:List Value)(w:World)(hl:news.length=n*4)(hn:0<n)(hbig:n*48≤140737488355328)(hmax:n≤maxLen)(hc:∀j v,news[j]?=some v→w.cell? ((⟨b,off,none⟩:Addr).add j)=some v)(h1:∀u∈news,u.oneCell'=true):
  Calls Tryz.prog 168 #[.slice (some ⟨b,off,none⟩) n c] w fun e w'=>∃v',e=.returned v'∧w'.ownsRow w.heap.size 135 4 v' n news∧Below w.heap.size w w':=by
 obtain⟨i0,hi,hz0,hz1,hz2⟩:=info_parts (show(Tryz.prog.info? 135).map (fun i=>(i.zero,i.size,i.bytes))=some (some (.agg #[.string ⟨#[]⟩,.int .i64 0,.int .i64 0,.string ⟨#[]⟩]),4,48) by kernel_rfl);have q22:∀(w:World) (a:Option Addr) (n c n' c':Nat),(binOp .eql 100 (.slice a n c) (.slice none n' c')).run Tryz.prog w=.ok (.bool a.isNone) w:=fun w a n c n' c'=>Lib.run_eql_slice_nil w _ _ a n c n' c' Tryz.underlying100
 have u22:∀w,Sem.run Tryz.prog (underlying 100) w=.ok (TypeDesc.slice 135) w:=run_underlying Tryz.underlying100;have HC:=kept hc;have H1:=kept h1;clear hc h1;go_enter Tryz.func168,Tryz.ntmps168;go_wp2_with (at_builtin;refine wpList_append_own _ rfl _ _ 100 rfl w.heap.size 135 i0 (.agg #[.string ⟨#[]⟩,.int .i64 0,.int .i64 0,.string ⟨#[]⟩]) 4 48 Tryz.underlying100 hi hz0 hz1 hz2 rfl (by decide) _ _ _ rfl (World.ownsRow_made w #[] 0 (Zh _) (Zq _) rfl) ⟨b,off,none⟩ n c news rfl ?qc1 ?qc2 ?qc3 ?qc4 ?qc5 ?qc6 ?_)
 case qc1=>exact hl
 case qc2=>
  intro j u hj;have:=HC.out j u hj;rw[Addr.add_lit]at this⊢;exact Lib.cell?_alloc_some _ this
 case qc3=>exact H1.out
 case qc4=>omega
 case qc5=>omega
 case qc6=>simp
 intro v' w1 hown hgrow hnil;have Hb:=kept (((Below.refl _ w).alloc (Zh _) (.cells #[] 135)).grown hgrow (by simp) (by intro k hk;simp[Value.ownBlock]at hk;omega));have Ho:=kept (show w1.ownsRow w.heap.size 135 4 v' n news by simpa using hown);clear hown hgrow hnil HC H1;go_wp2
 go_ret
 exact⟨v',rfl,Ho.out,Hb.out⟩
theorem bvt(a:Option Addr)(c:Nat)(w:World):
  Calls Tryz.prog 168 #[.slice a 0 c] w fun e w'=>(∃a' c',e=.returned (.slice a' 0 c'))∧Below w.heap.size w w':=by
 have q22:∀(w:World) (a:Option Addr) (n c n' c':Nat),(binOp .eql 100 (.slice a n c) (.slice none n' c')).run Tryz.prog w=.ok (.bool a.isNone) w:=fun w a n c n' c'=>Lib.run_eql_slice_nil w _ _ a n c n' c' Tryz.underlying100
 have u22:∀w,Sem.run Tryz.prog (underlying 100) w=.ok (TypeDesc.slice 135) w:=run_underlying Tryz.underlying100;cases a with
 |none=>
  go_enter Tryz.func168,Tryz.ntmps168;go_wp2
  go_ret
  exact⟨⟨_,_,rfl⟩,Below.refl _ _⟩
 |some ad=>
  obtain⟨i0,hi,hz0,hz1,hz2⟩:=info_parts (show(Tryz.prog.info? 135).map (fun i=>(i.zero,i.size,i.bytes))=some (some (.agg #[.string ⟨#[]⟩,.int .i64 0,.int .i64 0,.string ⟨#[]⟩]),4,48) by kernel_rfl);go_enter Tryz.func168,Tryz.ntmps168;go_wp2_with (at_builtin;refine wpList_append_own _ rfl _ _ 100 rfl w.heap.size 135 i0 (.agg #[.string ⟨#[]⟩,.int .i64 0,.int .i64 0,.string ⟨#[]⟩]) 4 48 Tryz.underlying100 hi hz0 hz1 hz2 rfl (by decide) _ _ _ rfl (World.ownsRow_made w #[] 0 (Zh _) (Zq _) rfl) ad 0 c [] rfl rfl (by intro j u hj;simp at hj) (by intro u hu;cases hu) (by unfold maxLen;omega) (by omega) (by simp) ?_);intro v' w1 hown hgrow hnil;have Hb:=kept (((Below.refl _ w).alloc (Zh _) (.cells #[] 135)).grown hgrow (by simp) (by intro k hk;simp[Value.ownBlock]at hk;omega));have Hv:∃a' c',v'=.slice a' 0 c':=by
   rcases hown.2 with⟨rfl,_⟩|⟨g,cap,cur,rfl,_⟩
   ·exact⟨_,_,rfl⟩
   ·exact⟨_,_,rfl⟩
  obtain⟨a',c',rfl⟩:=Hv;clear hown hgrow hnil;go_wp2
  go_ret
  exact⟨⟨_,_,rfl⟩,Hb.out⟩
namespace AX
theorem bz6(W0:Nat)(o:Own)(h:Hp):AT 168 [.sl W0 o []] h (.sl 4 .no []):=by
 intro C es hI ha;obtain⟨c,es',rfl,h1,h2⟩:=repL_cons.1 ha;rw[repL_nil]at h2;subst h2;obtain⟨a,cap,rfl,_,_,_⟩:=rep_sl.1 h1;refine(bvt a cap C.w).mono ?_;rintro e w' ⟨⟨a',c',rfl⟩,hb⟩;obtain⟨i1,s1⟩:=az3 hI hb;exact⟨C.at w',h,.sl 4 .no [],_,rfl,rfl,i1,s1,rep_sl.2 ⟨a',c',rfl,Zq _,by unfold RepRows;trivial,trivial⟩,rfl,rfl⟩
theorem bju(o:Own)(rows:List (List A))(h0:rows≠[])(hbig:rows.length*48≤140737488355328)(hmax:rows.length≤maxLen)(h:Hp):
  AC 168 [.sl 4 o rows] h fun v h'=>v=.bs h.b.length 4 rows.length∧h'=⟨h.b++[.row 135 rows.flatten],h.t⟩:=by
 intro C es hI ha;obtain⟨c,es',rfl,h1,h2⟩:=repL_cons.1 ha;rw[repL_nil]at h2;subst h2;have hpos:0<rows.length:=Z9.2 h0;obtain⟨g,off,cap,cs,rfl,k1,k2,k3,k4,k5⟩:=axz h1 hpos;refine(bk3 g off rows.length cap cs C.w k2 hpos hbig hmax k5 (azy k1 (az5 k3))).mono ?_;rintro e w' ⟨v',rfl,hown,hb⟩;rcases hown.2 with⟨_,hz⟩|⟨g',cap',cur,rfl,hg,hh,hcap,hcm,hcs,htake⟩
 ·omega
 ·have hcur:cur=(cs++cur.toList.drop (rows.length*4)).toArray:=by
   apply ZR.1;rw[←htake];simp
  rw[hcur]at hh;obtain⟨C',m1,m2,m3,m4,m5,m6⟩:=aq7 hI hb hg hh k1;exact⟨C',_,.bs h.b.length 4 rows.length,_,rfl,m1,m2,m3,rep_bs.2 ⟨cap',by rw[m4],hcap,m5,hcm,by rw[m6,←hcs];exact Nat.le_of_eq (congrArg Array.size hcur)⟩,rfl,rfl⟩
end AX
namespace AX
theorem setCells_eq:∀(xs l:List A) (off:Nat),off+xs.length≤l.length→setCells l off xs=l.take off++xs++l.drop (off+xs.length):=by
 intro xs;induction xs with
 |nil=>intro l off _;simp[setCells]
 |cons x xs ih=>
  intro l off hlt;rw[Zi]at hlt;rw[setCells,ih _ _ (by simp;omega),List.take_add_one,YB (by omega),List.take_set_of_le (Zh _),List.drop_set_of_lt (by omega)];simp[show off+1+xs.length=off+(xs.length+1) by omega]
def bareS(s:Adr.Step):Adr.Step:=⟨s.name,Adr.K.none⟩
def barL(mods:List Adr.Step)(j:Nat):List A:=(((mods.take j).map bareS).map Adr.Step.cells).flatten++((mods.drop j).map Adr.Step.cells).flatten
theorem cells_len(l:List Adr.Step):((l.map Adr.Step.cells).flatten).length=l.length*4:=by
 induction l with
 |nil=>rfl
 |cons x l ih=>rw[ZE,ZI,Zb,ih];simp[Adr.Step.cells];omega
theorem czx(mods:List Adr.Step)(j:Nat)(hj:j≤mods.length):(barL mods j).length=mods.length*4:=by
 unfold barL;rw[Zb,cells_len,cells_len,Zj,Zk,Zo,←Yv];congr 1;omega
theorem cyp(mods:List Adr.Step)(j:Nat)(hj:j<mods.length):setCells (barL mods j) (j*4+1) [.int .i64 0,.int .i64 0,.str []]=barL mods (j+1):=by
 rw[setCells_eq _ _ _ (by rw[czx _ _ (by omega)];simp;omega)];have hp:((((mods.take j).map bareS).map Adr.Step.cells).flatten).length=j*4:=by
  rw[cells_len,Zj,Zk];congr 1;omega
 have hd:mods.drop j=mods[j]::mods.drop (j+1):=Zl hj;have ht:mods.take (j+1)=mods.take j++[mods[j]]:=by rw[Yo hj]
 unfold barL;rw[hd,ht,YF,YF,List.flatten_append];generalize (((mods.take j).map bareS).map Adr.Step.cells).flatten=p at hp;obtain⟨nm,⟨kd,kn,ks⟩⟩:=mods[j];simp only[ZE,ZI,Adr.Step.cells,Zd,Zg,Zi,ZH];generalize ((mods.drop (j+1)).map Adr.Step.cells).flatten=q;rw[List.take_append,Zy (by omega),List.drop_append,Zt (by omega),hp];rw[show j*4+1-j*4=1 by omega,show j*4+1+(0+1+1+1)-j*4=4 by omega];simp[bareS,Adr.K.none,Adr.Step.cells]
def bzo:AX.AFn:=⟨26,aS [aR 1 (.box 105 (.t 0)),aR 2 (.alloc 105 [.sl 0 .nil [],.bool false,.str [],.str [],.int .i64 0,.int .i64 0,.str []])] (aS [aR 5 (.load true 7 (.t 1)),aR 3 (.alloc 105 [.sl 0 .nil [],.bool false,.str [],.str [],.int .i64 0,.int .i64 0,.str []]),aU (.store 7 (.t 3) (.t 5))] (aS [aR 6 (.build [.int .i64 0,.int .i64 0,.str []] []),aF 7 4 3,aU (.store 3 (.t 7) (.t 6))] (aS [aF 8 0 1,aL 9 8,aR 10 (.call 168 [.t 9]),aF 11 0 3,aU (.store 1 (.t 11) (.t 10))] (.seq (aS [aF 12 0 3,aL 13 12,aR 14 (.len false (.t 13)),aR 15 (.mv (aI 0))] (.block 0 (.loop (aS [aR 16 (.bin .lss (.t 15) (.t 14))] (.seq (.cond (.t 16) (.skip) (.exit 0)) (.seq (.block 1 (aS [aM 17 15,aM 4 17] (.reg false [aF 18 0 3,aL 19 18,aM 20 4,aR 21 (.build [.int .i64 0,.int .i64 0,.str []] []),aR 22 (.iaddr 4 (.t 19) (.t 20)),aF 23 1 22,aU (.store 3 (.t 23) (.t 21))]))) (.reg false [aR 24 (.bin .add (.t 15) (aI 1)),aM 15 24]))))))) (aS [aR 25 (.load true 7 (.t 3)),aU (.store 7 (.t 2) (.t 25))] (.ret)))))),[.c 2 true 7]⟩
theorem cjp:AX.compFn Tryz.prog 140=some bzo:=by kernel_rfl
theorem cvp(a:Adr.Ad)(hn:a.mods.length≤3000000)(h:Hp):AT 140 [.agg a.cells] h (.agg (Adr.bare a).cells):=by
 obtain⟨mods,data,ty,nm,⟨kk,kn,ks⟩⟩:=a;dsimp only at hn;have hbc:(Adr.bare ⟨mods,data,ty,nm,⟨kk,kn,ks⟩⟩).cells=[.sl 4 .no ((mods.map fun s=>(⟨s.name,Adr.K.none⟩:Adr.Step)).map Adr.Step.cells),.bool data,.str ty,.str nm,.int .i64 0,.int .i64 0,.str []]:=rfl;rw[hbc];refine pcallz ?_ (by simp[A.pure,A.data,Adr.Ad.cells]) h;refine azb mixedT cjp (by simp[bzo]) ?_;dsimp only[bzo,Adr.Ad.cells];by_cases hm:mods=[]
 ·subst hm;have hc:=fun h=>bz6 4 .no h
  have hz:¬(0:Int)<((0:Nat):Int):=by decide
  simp only[Yj];refine azf ti ?_;refine use (hc _) ?_;refine azf ti ?_;refine avu ?_;refine azf hz ?_;exact⟨_,le_refl _,_,rfl,⟨.inl ⟨rfl,rfl⟩,.inl ⟨rfl,rfl⟩,.inl ⟨rfl,rfl⟩,.inl ⟨rfl,rfl⟩,.inl ⟨rfl,rfl⟩,.inl ⟨rfl,rfl⟩,.inl ⟨rfl,rfl⟩,trivial⟩⟩
 ·have hrne:mods.map Adr.Step.cells≠[]:=by simpa using hm
  have lm:(mods.map Adr.Step.cells).length=mods.length:=Zj ..;have hc:=fun h=>bju .no (mods.map Adr.Step.cells) hrne (by rw[lm];omega) (by rw[lm];unfold maxLen;omega) h
  rw[lm]at hc;refine azf ti ?_;refine use (hc _) ?_;refine azf ti ?_;have hL0:(mods.map Adr.Step.cells).flatten=barL mods 0:=by unfold barL;simp
  rw[hL0];refine azd (fun mm ts h=>∃(j:Nat) (B0:Blk),mm=mods.length-j∧j≤mods.length∧h=⟨[B0,.cells 105 [.sl 0 .nil [],.bool false,.str [],.str [],.int .i64 0,.int .i64 0,.str []],.cells 105 [.bs 3 4 mods.length,.bool data,.str ty,.str nm,.int .i64 0,.int .i64 0,.str []],.row 135 (barL mods j)],[]⟩∧ts 2=.ptr 1 0∧ts 3=.ptr 2 0∧ts 14=.int .i64 (mods.length:Nat)∧ts 15=.int .i64 (j:Nat)) mods.length ?_ ?_
  ·exact⟨0,_,by omega,by omega,rfl,by(exact ev0 ti),by(exact ev0 ti),by(exact ev0 ti),by(exact azo ti)⟩
  rintro mm ts h ⟨j,B0,rfl,hjc,rfl,t2,t3,t14,t15⟩;by_cases hj:j<mods.length
  ·have hlt:(j:Int)<(mods.length:Int):=by omega
   have hj0:(0:Int)≤(j:Int):=by omega
   have ei:IntKind.i64.wrap ((j:Int)+1)=((j+1:Nat):Int):=by rw[wrap64 (by omega) (by omega)];omega
   have hset:=cyp mods j hj;have hln:j*4+1+3≤(barL mods j).length:=by rw[czx _ _ (by omega)];omega
   simp only[setCells]at hset;refine azf (ai t2 (ai t3 (ai t14 (ai t15 (ai hlt (ai hj0 (ai hln (ai hset ei)))))))) ?_;exact⟨mods.length-(j+1),by omega,j+1,B0,rfl,by omega,rfl,by(exact ev0 t2),by(exact ev0 t3),by(exact ev0 t14),by(exact ev0 ei)⟩
  ·have hlt:¬((j:Int)<(mods.length:Int)):=by omega
   have hje:j=mods.length:=by omega
   subst hje;refine azf (ai t2 (ai t3 (ai t14 (ai t15 hlt)))) ?_;refine⟨_,le_refl _,_,rfl,⟨.inr ⟨3,4,135,(mods.map bareS).map Adr.Step.cells,by simp,?_,rfl,?_,?_⟩,.inl ⟨rfl,rfl⟩,.inl ⟨rfl,rfl⟩,.inl ⟨rfl,rfl⟩,.inl ⟨rfl,rfl⟩,.inl ⟨rfl,rfl⟩,.inl ⟨rfl,rfl⟩,trivial⟩⟩
   ·show some (Blk.row _ _)=some _
    congr 2;unfold barL;simp
   ·intro r hr;obtain⟨s,_,rfl⟩:=Z0.1 hr;rfl
   ·rw[List.all_flatten,ZF];intro r hr;obtain⟨s,_,rfl⟩:=Z0.1 hr;rfl
end AX
end
end Go.Proofs.YtnghhnahdjjpkaaGreatDoor
