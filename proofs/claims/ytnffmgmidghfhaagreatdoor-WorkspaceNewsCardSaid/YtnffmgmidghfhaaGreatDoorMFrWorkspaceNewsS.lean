/- Part of what the proof needs. -/
import Derived.Test.YtnffmgmidghfhaaGreatDoorMFrWorkspaceNewsR
set_option maxHeartbeats 4000000
set_option maxRecDepth 100000
set_option linter.all false
namespace Go.Proofs.YtnffmgmidghfhaaGreatDoor
section
open Go.RowKit
namespace AX
def bzz:AX.AFn:=⟨39,aS [aR 1 (.box 172 (.t 0)),aR 2 (.mv (aI 0))] (.seq (aS [aF 5 0 1,aL 6 5,aR 7 (.len false (.t 6)),aR 8 (.bin .gtr (.t 7) (aI 16))] (.cond (.t 8) (aS [aR 2 (.mv (aI 4))] (.ret)) (.skip))) (.seq (aS [aF 9 0 1,aL 10 9,aR 11 (.len false (.t 10)),aR 12 (.mv (aI 0))] (.block 0 (.loop (aS [aR 13 (.bin .lss (.t 12) (.t 11))] (.seq (.cond (.t 13) (.skip) (.exit 0)) (.seq (.block 1 (aS [aR 14 (.iaddr 4 (.t 10) (.t 12)),aR 15 (.load true 4 (.t 14)),aR 4 (.alloc 199 [.str [],.int .i64 0,.int .i64 0,.str []]),aU (.store 4 (.t 4) (.t 15))] (.seq (aS [aF 16 0 4,aL 17 16,aR 18 (.call 23 [.t 17]),aR 19 (.un .not (.t 18))] (.cond (.t 19) (aS [aR 2 (.mv (aI 7))] (.ret)) (.skip))) (aS [aF 20 1 4,aR 21 (.load true 3 (.t 20)),aR 22 (.call 176 [.t 21]),aR 23 (.un .not (.t 22))] (.cond (.t 23) (aS [aR 2 (.mv (aI 1))] (.ret)) (.skip)))))) (.reg false [aR 24 (.bin .add (.t 12) (aI 1)),aM 12 24]))))))) (.seq (aS [aF 25 2 1,aL 26 25,aR 27 (.call 140 [.t 26]),aR 28 (.un .not (.t 27)),aM 29 28,aG 30 (.faddr 3 (.t 1)) 29 false,aG 31 (.load false 1 (.t 30)) 29 false,aG 32 (.call 23 [.t 31]) 29 false,aG 33 (.un .not (.t 32)) 29 false,aR 34 (.pick (.t 29) (.c (.bool true)) (.t 33))] (.cond (.t 34) (aS [aR 2 (.mv (aI 7))] (.ret)) (.skip))) (.seq (aS [aF 35 4 1,aR 36 (.load true 3 (.t 35)),aR 37 (.call 176 [.t 36]),aR 38 (.un .not (.t 37))] (.cond (.t 38) (aS [aR 2 (.mv (aI 1))] (.ret)) (.skip))) (aS [aR 2 (.mv (aI 0))] (.ret)))))),[.t 2]⟩
theorem cqc:AX.compFn Tryz.prog 157=some bzz:=by kernel_rfl
def akx:AX.AFn:=⟨26,aS [aR 1 (.box 170 (.t 0)),aR 2 (.mv (.c (.str [])))] (.seq (.block 0 (aS [aR 4 (.load true 3 (.t 1)),aR 5 (.call 176 [.t 4]),aR 6 (.un .not (.t 5)),aM 7 6,aG 8 (.faddr 0 (.t 1)) 7 false,aG 9 (.load false 1 (.t 8)) 7 false,aG 10 (.bin .eql (.t 9) (aI 0)) 7 false,aR 11 (.pick (.t 7) (.c (.bool true)) (.t 10)),aM 3 11] (.cond (.t 3) (aS [aR 2 (.mv (.c (.str [])))] (.ret)) (aS [aF 13 0 1,aL 14 13,aR 15 (.bin .eql (.t 14) (aI 1)),aM 12 15] (.cond (.t 12) (aS [aF 16 1 1,aL 17 16,aR 18 (.call 177 [.t 17]),aR 19 (.bin .add (.c (.str [91])) (.t 18)),aR 20 (.bin .add (.t 19) (.c (.str [93]))),aM 2 20] (.ret)) (.skip)))))) (aS [aF 21 2 1,aL 22 21,aR 23 (.call 152 [.t 22]),aR 24 (.bin .add (.c (.str [91])) (.t 23)),aR 25 (.bin .add (.t 24) (.c (.str [93]))),aM 2 25] (.ret))),[.t 2]⟩
theorem bws:AX.compFn Tryz.prog 158=some akx:=by kernel_rfl
def av2:AX.AFn:=⟨41,aS [aR 1 (.box 172 (.t 0)),aR 2 (.mv (.c (.str [])))] (.seq (aS [aR 6 (.load true 7 (.t 1)),aR 7 (.call 157 [.t 6]),aR 8 (.bin .neq (.t 7) (aI 0))] (.cond (.t 8) (aS [aR 2 (.mv (.c (.str [])))] (.ret)) (.skip))) (aS [aR 3 (.alloc 142 [.nilp,.sl 0 .nil []])] (.seq (aS [aF 9 0 1,aL 10 9,aR 11 (.len false (.t 10)),aR 12 (.mv (aI 0))] (.block 0 (.loop (aS [aR 13 (.bin .lss (.t 12) (.t 11))] (.seq (.cond (.t 13) (.skip) (.exit 0)) (.seq (.block 1 (aS [aR 14 (.iaddr 4 (.t 10) (.t 12)),aR 15 (.load true 4 (.t 14)),aR 5 (.alloc 199 [.str [],.int .i64 0,.int .i64 0,.str []]),aU (.store 4 (.t 5) (.t 15))] (.reg true [aF 16 0 5,⟨some 17,.load false 1 (.t 16),none,[0]⟩,⟨some 18,.bin .add (.c (.str [109,111,100,117,108,101,46])) (.t 17),none,[1]⟩,aF 19 1 5,⟨some 20,.load true 3 (.t 19),none,[3]⟩,⟨some 21,.call 158 [.t 20],none,[4]⟩,⟨some 22,.bin .add (.t 18) (.t 21),none,[2,5]⟩,⟨some 23,.bin .add (.t 22) (.c (.str [46])),none,[6]⟩,⟨some 24,.call 121 [.t 3,.t 23],none,[7,5]⟩]))) (.reg false [aR 25 (.bin .add (.t 12) (aI 1)),aM 12 25]))))))) (.seq (aS [aF 26 1 1,aL 27 26] (.cond (.t 27) (.reg false [aR 28 (.call 121 [.t 3,.c (.str [100,97,116,97,46])])]) (.skip))) (.seq (.reg true [aF 29 2 1,⟨some 30,.load false 1 (.t 29),none,[0]⟩,⟨some 31,.bin .add (.t 30) (.c (.str [46])),none,[1]⟩,aF 32 3 1,⟨some 33,.load false 1 (.t 32),none,[3]⟩,⟨some 34,.bin .add (.t 31) (.t 33),none,[2,4]⟩,aF 35 4 1,⟨some 36,.load true 3 (.t 35),none,[6]⟩,⟨some 37,.call 158 [.t 36],none,[7]⟩,⟨some 38,.bin .add (.t 34) (.t 37),none,[5,8]⟩,⟨some 39,.call 121 [.t 3,.t 38],none,[9,8]⟩]) (aS [aR 40 (.call 97 [.t 3]),aM 2 40] (.ret))))))),[.t 2]⟩
theorem byk:AX.compFn Tryz.prog 147=some av2:=by kernel_rfl
def ak8:AX.AFn:=⟨17,aS [aR 2 (.mv (.c (.str []))),aR 3 (.mv (aI 0))] (aS [aM 7 0,aR 8 (.call 118 [.t 7]),aM 6 8,aE 9 6 0,aE 10 6 1,aR 4 (.alloc 172 [.sl 0 .nil [],.bool false,.str [],.str [],.int .i64 0,.int .i64 0,.str []]),aU (.store 7 (.t 4) (.t 9)),aM 5 10] (.seq (aS [aM 11 5,aR 12 (.bin .neq (.t 11) (aI 0))] (.cond (.t 12) (aS [aM 13 5,aR 2 (.mv (.c (.str []))),aM 3 13] (.ret)) (.skip))) (aS [aR 14 (.load true 7 (.t 4)),aR 15 (.call 148 [.t 14]),aR 16 (.call 147 [.t 15]),aM 2 16,aR 3 (.mv (aI 0))] (.ret)))),[.t 2,.t 3]⟩
theorem byr:AX.compFn Tryz.prog 134=some ak8:=by kernel_rfl
structure Adr.In(a:Adr.Ad):Prop where
 n:a.mods.length<=3000000
 m:∀s∈a.mods,s.name.length<=2000000/\s.key.str.length<=2000000
 t:a.type.length<=2000000
 nm:a.name.length<=2000000
 k:a.key.str.length<=2000000
theorem cxj(a:Adr.Ad)(hi:Adr.In a)(h:Hp):AT 157 [.agg a.cells] h (.int .i64 (Adr.check a)):=by
 obtain⟨mods,data,ty,nm,⟨kk,kn,ks⟩⟩:=a;obtain⟨hn,hm,ht,ha,hk⟩:=hi;dsimp only at hn hm ht ha hk;refine pcall ?_ rfl (by simp[A.pure,A.data,Adr.Ad.cells]) h;refine aza mixedT cqc (by simp[bzz]) ?_;dsimp only[bzz,Adr.Ad.cells];have lm:(mods.map Adr.Step.cells).length=mods.length:=Zl ..;obtain⟨Z,hZ⟩:=Ex (Adr.check ⟨mods,data,ty,nm,⟨kk,kn,ks⟩⟩);rw[hZ];unfold Adr.check at hZ;dsimp only at hZ;by_cases h16:(mods.length:Int)>16
 ·rw[if_pos (by omega)]at hZ;subst hZ;refine azb (ai lm h16) ?_;exact Fn rfl
 rw[if_neg (by omega)]at hZ;have ck:=fun h=>cvk ty ht h
 have ci:=fun h=>ax0 nm ha h
 have cv:=fun h=>ayc ⟨kk,kn,ks⟩ hk h
 unfold Adr.K.A at cv;dsimp only at cv;refine azb (ai lm h16) ?_
 refine azh (fun mm ts h=>∃(j:Nat) (l:List Blk),mm=mods.length-j/\j<=mods.length/\h=⟨.cells 172 [.sl 4 .no (mods.map Adr.Step.cells),.bool data,.str ty,.str nm,.int .i64 kk,.int .i64 kn,.str ks]::l,[]⟩ /\
  (match (mods.drop j).find? (fun s=>!(Adr.ident s.name&&Adr.keyOk s.key))with
  |some s=>if Adr.ident s.name then(1:Int)else 7
  |none=>if !Adr.kindB ty||!Adr.ident nm then 7 else if !Adr.keyOk ⟨kk,kn,ks⟩then 1 else 0)=Z /\
  ts 1=.ptr 0 0/\ts 10=.sl 4 .no (mods.map Adr.Step.cells)/\ts 11=.int .i64 (mods.length:Nat)/\ts 12=.int .i64 (j:Nat)) mods.length ?_ ?_
 ·exact⟨0,[],by omega,by omega,rfl,hZ,by(exact ev0 ti),by(exact ev0 ti),by(exact ev0 lm),by(exact aqj ti)⟩
 rintro mm ts h ⟨j,l,rfl,hjc,rfl,hit,t1,t10,t11,t12⟩;by_cases hj:j<mods.length
 ·have hlt:(j:Int)<(mods.length:Int):=by omega
  have hlt':(j:Int)<((mods.map Adr.Step.cells).length:Int):=by rw[lm];exact hlt
  have hj0:(0:Int)<=(j:Int):=by omega
  have ei:IntKind.i64.wrap ((j:Int)+1)=((j+1:Nat):Int):=by rw[wrap64 (by omega) (by omega)];omega
  have hg:=azy Adr.Step.cells mods j hj;have hmj:=hm _ (ZF hj);rw[ZX hj,List.find?_cons]at hit;obtain⟨x,hx⟩:=Ex (mods[j]);rw[hx]at hg hmj hit;obtain⟨xn,⟨xk,xm,xs⟩⟩:=x;dsimp only[Adr.Step.cells]at hg hmj hit;have cxi:=fun h=>ax0 xn hmj.1 h
  have cxv:=fun h=>ayc ⟨xk,xm,xs⟩ hmj.2 h
  unfold Adr.K.A at cxv;dsimp only at cxv;obtain⟨I,hI⟩:=Ex (Adr.ident xn);obtain⟨K,hK⟩:=Ex (Adr.keyOk ⟨xk,xm,xs⟩);rw[hI]at cxi hit;rw[hK]at cxv hit;refine azb (ai t1 (ai t10 (ai t11 (ai t12 (ai hlt (ai hlt' (ai hj0 hg))))))) ?_;refine use (cxi _) ?_;cases I
  ·simp only[Yz,Z9]at hit;rw[hI]at hit;simp only[Zo,if_false]at hit;subst hit;refine azb (ai t1 (ai t10 (ai t11 t12))) ?_;exact Fn rfl
  refine azb (ai t1 (ai t10 (ai t11 t12))) ?_;refine use (cxv _) ?_;cases K
  ·simp only[Zad,Z9]at hit;rw[hI]at hit;simp only[if_true]at hit;subst hit;refine azb (ai t1 (ai t10 (ai t11 t12))) ?_;exact Fn rfl
  ·simp only[ZW,Ye]at hit;refine azb (ai t1 (ai t10 (ai t11 (ai t12 ei)))) ?_;exact⟨mods.length-(j+1),by omega,j+1,_,rfl,by omega,rfl,hit,by(exact ev0 t1),by(exact ev0 t10),by(exact ev0 t11),by(exact ev0 ei)⟩
 ·have hlt:¬((j:Int)<(mods.length:Int)):=by omega
  rw[Y5 (by omega)]at hit;simp only[List.find?_nil]at hit;refine azb (ai t1 (ai t10 (ai t11 (ai t12 hlt)))) ?_;refine use (ck _) ?_;cases hkb:Adr.kindB ty
  ·rw[hkb]at hit;rw[if_pos (by simp)]at hit;subst hit;refine azb (ai t1 (ai t10 (ai t11 t12))) ?_;exact Fn rfl
  rw[hkb]at hit;refine azb (ai t1 (ai t10 (ai t11 t12))) ?_;refine use (ci _) ?_;cases hib:Adr.ident nm
  ·rw[hib]at hit;rw[if_pos (by simp)]at hit;subst hit;refine azb (ai t1 (ai t10 (ai t11 t12))) ?_;exact Fn rfl
  rw[hib]at hit;rw[if_neg (by simp)]at hit;refine azb (ai t1 (ai t10 (ai t11 t12))) ?_;refine use (cv _) ?_;cases hvb:Adr.keyOk ⟨kk,kn,ks⟩
  ·rw[hvb]at hit;rw[if_pos (by simp)]at hit;subst hit;refine azb (ai t1 (ai t10 (ai t11 t12))) ?_;exact Fn rfl
  ·rw[hvb]at hit;rw[if_neg (by simp)]at hit;subst hit;refine azb (ai t1 (ai t10 (ai t11 t12))) ?_;exact Fn rfl
theorem bz6(h:Hp):AT 158 [.agg [.int .i64 0,.int .i64 0,.str []]] h (.str []):=by
 refine pcall ?_ rfl (by simp[A.pure,A.data]) h;refine aza mixedT bws (by simp[akx]) ?_;dsimp only[akx];have cv:=fun h=>ayc Adr.K.none (by unfold Adr.K.none;simp) h
 have e1:Adr.keyOk Adr.K.none=true:=by decide
 rw[e1]at cv;unfold Adr.K.A Adr.K.none at cv;dsimp only at cv;refine azb ti ?_;refine use (cv _) ?_;refine azb ti ?_;exact Fn rfl
def Bw(acc:List UInt8)(w:Blk):Prop:=w=bwt acc\/(acc=[]/\w=.cells 142 [.nilp,.sl 0 .nil []])
theorem Bw.bt{acc:List UInt8}{w B0:Blk}{l:List Blk}{t:List (TypeId×Nat×Nat)}(hw:Bw acc w):Bt ⟨B0::w::l,t⟩ 1 acc:=by
 rcases hw with rfl|⟨rfl,rfl⟩
 ·exact .inl rfl
 ·exact .inr ⟨rfl,rfl⟩
def stepB(s:Adr.Step):List UInt8:=Adr.modW++s.name++[46]
theorem cjm(mods:List Adr.Step)(data:Bool)(ty nm:List UInt8)(hk:∀s∈mods,s.key=Adr.K.none)(hc:Adr.check ⟨mods,data,ty,nm,Adr.K.none⟩=0):
  Adr.fmt ⟨mods,data,ty,nm,Adr.K.none⟩=mods.flatMap stepB++(if data then Adr.dataW else[])++(ty++[46]++nm):=by
 have hn:Adr.fmtKey Adr.K.none=[]:=by decide
 unfold Adr.fmt;rw[if_neg (by simp[hc])];dsimp only;rw[hn];have e:Adr.steps mods=mods.flatMap stepB:=by
  unfold Adr.steps;induction mods with
  |nil=>rfl
  |cons x l ih=>
   have hx:=hk x (by simp);have hcl:∀l:List Adr.Step,(∀s∈l,s.key=Adr.K.none)->(l.flatMap fun s=>Adr.modW++s.name++Adr.fmtKey s.key++[46])=l.flatMap stepB:=by
    intro l;induction l with
    |nil=>intro _;rfl
    |cons y l ih=>
     intro hl;rw[YJ,YJ,ih fun s hs=>hl s (by simp[hs]),hl y (by simp),hn];unfold stepB;simp
   exact hcl _ hk
 rw[e];simp
theorem cjj{α:Type}(f:α->List UInt8)(l:List α)(j:Nat)(hj:j<l.length):(l.take (j+1)).flatMap f=(l.take j).flatMap f++f l[j]:=by
 rw[ZP hj,Zaa];simp
theorem ayp:∀(l:List Adr.Step),(∀s∈l,s.name.length<=2000000)->(l.flatMap stepB).length<=l.length*2000008
 |[],_=>by simp
 |x::l,h=>by
  rw[YJ,Za,Zf,Nat.succ_mul];have h1:=ayp l fun s hs=>h s (by simp[hs])
  have h2:=h x (by simp);have h3:(stepB x).length=x.name.length+8:=by unfold stepB;simp[Adr.modW]<;>omega
  omega
theorem bym(a:Adr.Ad)(hi:Adr.In a)(hk:∀s∈a.mods,s.key=Adr.K.none)(hkk:a.key=Adr.K.none)(h:Hp):AT 147 [.agg a.cells] h (.str (Adr.fmt a)):=by
 have cc:=fun h=>cxj a hi h
 obtain⟨mods,data,ty,nm,key⟩:=a;dsimp only at hk hkk;subst hkk;have hfb:=cjm mods data ty nm hk;obtain⟨hn,hm,ht,ha,_⟩:=hi;dsimp only at hn hm ht ha;refine pcall ?_ rfl (by simp[A.pure,A.data,Adr.Ad.cells]) h;refine aza mixedT byk (by simp[av2]) ?_;dsimp only[av2,Adr.Ad.cells,Adr.K.none]at cc⊢;have lm:(mods.map Adr.Step.cells).length=mods.length:=Zl ..;by_cases hc0:Adr.check ⟨mods,data,ty,nm,Adr.K.none⟩=0
 rotate_left
 ·have e1:(Adr.check ⟨mods,data,ty,nm,Adr.K.none⟩!=0)=true:=by simp[hc0]
  have hfz:Adr.fmt ⟨mods,data,ty,nm,Adr.K.none⟩=[]:=by unfold Adr.fmt;rw[if_pos hc0]
  unfold Adr.K.none at e1 hfz;refine azb ti ?_;refine use (cc _) ?_;refine azb e1 ?_;exact⟨_,le_refl _,by rw[hfz];rfl⟩
 have e1:(Adr.check ⟨mods,data,ty,nm,Adr.K.none⟩!=0)=false:=by simp[hc0]
 have hf:=hfb hc0;have hn16:mods.length<=16:=by
  rcases YF 16 mods.length with h16|h16
  ·unfold Adr.check at hc0;rw[if_pos h16]at hc0;exact absurd hc0 (by decide)
  ·exact h16
 have hlenall:=ayp mods fun s hs=>(hm s hs).1
 unfold Adr.K.none at e1 hf;rw[hf];refine azb ti ?_;refine use (cc _) ?_;refine azb (ai e1 lm) ?_
 refine azh (fun mm ts h=>∃(j:Nat) (w:Blk) (l:List Blk),mm=mods.length-j/\j<=mods.length/\h=⟨.cells 172 [.sl 4 .no (mods.map Adr.Step.cells),.bool data,.str ty,.str nm,.int .i64 0,.int .i64 0,.str []]::w::l,[]⟩/\Bw ((mods.take j).flatMap stepB) w /\
  ts 1=.ptr 0 0/\ts 3=.ptr 1 0/\ts 10=.sl 4 .no (mods.map Adr.Step.cells)/\ts 11=.int .i64 (mods.length:Nat)/\ts 12=.int .i64 (j:Nat)) mods.length ?_ ?_
 ·exact⟨0,_,[],by omega,by omega,rfl,.inr ⟨rfl,rfl⟩,by(exact ev0 ti),by(exact ev0 ti),by(exact ev0 ti),by(exact ev0 lm),by(exact aqj ti)⟩
 rintro mm ts h ⟨j,w,l,rfl,hjc,rfl,hw,t1,t3,t10,t11,t12⟩;have hacc:((mods.take j).flatMap stepB).length<=32000128:=by
  have h2:(mods.take j).length<=16:=by rw[Zm];omega
  exact Zr (ayp (mods.take j) fun s hs=>(hm s (List.mem_of_mem_take hs)).1) (Zr (Yk 2000008 h2) (by decide))
 by_cases hj:j<mods.length
 ·have hlt:(j:Int)<(mods.length:Int):=by omega
  have hlt':(j:Int)<((mods.map Adr.Step.cells).length:Int):=by rw[lm];exact hlt
  have hj0:(0:Int)<=(j:Int):=by omega
  have ei:IntKind.i64.wrap ((j:Int)+1)=((j+1:Nat):Int):=by rw[wrap64 (by omega) (by omega)];omega
  have hg:=azy Adr.Step.cells mods j hj;have hmj:=hm _ (ZF hj);have hkj:=hk _ (ZF hj);have hsn:=cjj stepB mods j hj;obtain⟨x,hx⟩:=Ex (mods[j]);rw[hx]at hg hmj hkj hsn;obtain⟨xn,xk⟩:=x;dsimp only at hkj;subst hkj;dsimp only[Adr.Step.cells,Adr.K.none]at hg hmj;have hxl:=hmj.1;have hsl:(stepB ⟨xn,Adr.K.none⟩).length=xn.length+8:=by unfold stepB;simp[Adr.modW]<;>omega
  have hse:109::111::100::117::108::101::46::(xn++[46])=stepB ⟨xn,Adr.K.none⟩:=rfl;have l1:7+xn.length<1099511627776:=by omega
  have l2:xn.length+7<1099511627776:=by omega
  have l3:xn.length+7+1<1099511627776:=by omega
  have l4:xn.length+8<1099511627776:=by omega
  have hcw:=fun(z:Blk)=>avu (h:=⟨.cells 172 [.sl 4 .no (mods.map Adr.Step.cells),.bool data,.str ty,.str nm,.int .i64 0,.int .i64 0,.str []]::w::(l++[z]),[]⟩) (i:=1) hw.bt (stepB ⟨xn,Adr.K.none⟩) (by rw[hsl];omega)
  rw[<-hsn]at hcw;have hcf:=fun h=>bz6 h
  refine azb (ai t1 (ai t3 (ai t10 (ai t11 (ai t12 (ai hlt (ai hlt' (ai hj0 (ai hg (ai l1 hse)))))))))) ?_;refine use (hcf _) ?_;refine azb (ai t1 (ai t3 (ai t10 (ai t11 (ai t12 (ai l1 (ai l2 (ai l3 (ai l4 hse))))))))) ?_;refine use (hcw _) ?_;refine azb (ai t1 (ai t3 (ai t10 (ai t11 (ai t12 ei))))) ?_;exact⟨mods.length-(j+1),by omega,j+1,_,_,rfl,by omega,rfl,.inl rfl,by(exact ev0 t1),by(exact ev0 t3),by(exact ev0 t10),by(exact ev0 t11),by(exact ev0 ei)⟩
 ·have hlt:¬((j:Int)<(mods.length:Int)):=by omega
  have hje:j=mods.length:=by omega
  subst hje;rw[Yu]at hw hacc;obtain⟨P,hP⟩:=Ex (mods.flatMap stepB);rw[hP]at hw hacc⊢;have hcf:=fun h=>bz6 h
  have hdw:Adr.dataW=[100,97,116,97,46]:=rfl;have l1:ty.length+1<1099511627776:=by omega
  have l2:ty.length+1+nm.length<1099511627776:=by omega
  have l3:ty.length+(nm.length+1)<1099511627776:=by omega
  have l4:ty.length+1+nm.length<1099511627776:=by omega
  cases data
  ·have hcw:=avu (h:=⟨.cells 172 [.sl 4 .no (mods.map Adr.Step.cells),.bool false,.str ty,.str nm,.int .i64 0,.int .i64 0,.str []]::w::l,[]⟩) (i:=1) hw.bt (ty++[46]++nm) (by simp;omega);have hcs:=bz2 (h:=⟨.cells 172 [.sl 4 .no (mods.map Adr.Step.cells),.bool false,.str ty,.str nm,.int .i64 0,.int .i64 0,.str []]::bwt (P++(ty++[46]++nm))::l,[]⟩) (i:=1) (.inl rfl) (by simp);refine azb (ai t1 (ai t3 (ai t10 (ai t11 (ai t12 (ai hlt (ai l1 (ai l2 l3)))))))) ?_;refine use (hcf _) ?_;refine azb (ai t1 (ai t3 (ai t10 (ai t11 (ai t12 (ai hlt (ai l1 (ai l2 (ai l3 l4))))))))) ?_;refine use hcw ?_;refine azb (ai t1 (ai t3 (ai t10 (ai t11 t12)))) ?_;refine use hcs ?_;refine azb (ai t1 (ai t3 (ai t10 (ai t11 t12)))) ?_;exact⟨_,le_refl _,by simp[azq]⟩
  ·have hcd:=avu (h:=⟨.cells 172 [.sl 4 .no (mods.map Adr.Step.cells),.bool true,.str ty,.str nm,.int .i64 0,.int .i64 0,.str []]::w::l,[]⟩) (i:=1) hw.bt Adr.dataW (by rw[hdw];simp;omega);have hcw:=avu (h:=⟨.cells 172 [.sl 4 .no (mods.map Adr.Step.cells),.bool true,.str ty,.str nm,.int .i64 0,.int .i64 0,.str []]::bwt (P++Adr.dataW)::l,[]⟩) (i:=1) (.inl rfl) (ty++[46]++nm) (by rw[hdw];simp;omega);have hcs:=bz2 (h:=⟨.cells 172 [.sl 4 .no (mods.map Adr.Step.cells),.bool true,.str ty,.str nm,.int .i64 0,.int .i64 0,.str []]::bwt (P++Adr.dataW++(ty++[46]++nm))::l,[]⟩) (i:=1) (.inl rfl) (by simp);rw[hdw]at hcd hcw hcs⊢;refine azb (ai t1 (ai t3 (ai t10 (ai t11 (ai t12 (ai hlt (ai l1 (ai l2 l3)))))))) ?_;refine use hcd ?_;refine azb (ai t1 (ai t3 (ai t10 (ai t11 (ai t12 (ai hlt (ai l1 (ai l2 l3)))))))) ?_;refine use (hcf _) ?_;refine azb (ai t1 (ai t3 (ai t10 (ai t11 (ai t12 (ai hlt (ai l1 (ai l2 (ai l3 l4))))))))) ?_;refine use hcw ?_;refine azb (ai t1 (ai t3 (ai t10 (ai t11 t12)))) ?_;refine use hcs ?_;refine azb (ai t1 (ai t3 (ai t10 (ai t11 t12)))) ?_;exact⟨_,le_refl _,by simp[azq]⟩
def bzq:AX.AFn:=⟨12,aS [aR 1 (.box 32 (.t 0)),aR 2 (.mv (.c (.bool false)))] (aS [aF 3 0 1,aL 4 3,aR 5 (.bin .neq (.t 4) (aI 6)),aM 6 5,aG 7 (.faddr 3 (.t 1)) 6 true,aG 8 (.load false 1 (.t 7)) 6 true,aG 9 (.call 132 [.t 8,.c (.fn 133 [])]) 6 true,aG 10 (.un .not (.t 9)) 6 true,aR 11 (.pick (.t 6) (.t 10) (.c (.bool false))),aM 2 11] (.ret)),[.t 2]⟩
theorem cxg:AX.compFn Tryz.prog 115=some bzq:=by kernel_rfl
def ak1:AX.AFn:=⟨6,aS [aR 1 (.box 32 (.t 0)),aR 2 (.mv (.c (.bool false)))] (aS [aR 3 (.load true 5 (.t 1)),aR 4 (.call 115 [.t 3]),aR 5 (.un .not (.t 4)),aM 2 5] (.ret)),[.t 2]⟩
theorem czk:AX.compFn Tryz.prog 133=some ak1:=by kernel_rfl
def ax9:AX.AFn:=⟨9,aS [aR 4 (.mv (.c (.bool false)))] (aS [aM 5 0,aM 6 1,aR 7 (.call 146 [.t 5,.t 6]),aR 8 (.bin .geq (.t 7) (aI 0)),aM 4 8] (.ret)),[.t 4]⟩
theorem bjp:AX.compFn Tryz.prog 132=some ax9:=by kernel_rfl
def ayg:AX.AFn:=⟨19,aS [aR 4 (.mv (aI 0))] (.seq (aS [aM 6 0,aR 7 (.len false (.t 6)),aR 8 (.mv (aI 0))] (.block 0 (.loop (aS [aR 9 (.bin .lss (.t 8) (.t 7))] (.seq (.cond (.t 9) (.skip) (.exit 0)) (.seq (.block 1 (aS [aM 10 8,aM 5 10] (aS [aM 11 1,aM 12 0,aM 13 5,aR 14 (.iaddr 5 (.t 12) (.t 13)),aR 15 (.load true 5 (.t 14)),aR 16 (.callv (.t 11) [.t 15])] (.cond (.t 16) (aS [aM 17 5,aM 4 17] (.ret)) (.skip))))) (.reg false [aR 18 (.bin .add (.t 8) (aI 1)),aM 8 18]))))))) (aS [aR 4 (.mv (aI (-1)))] (.ret))),[.t 4]⟩
theorem cjo:AX.compFn Tryz.prog 146=some ayg:=by kernel_rfl
def unkIdx:Nat->List V->Int
 |_,[]=>-1
 |i,v::l=>if Sf.known v=true then unkIdx (i+1) l else i
theorem bqh:∀(l:List V) (i:Nat),unkIdx i l>=0↔Sf.knowns l=false
 |[],i=>by simp[unkIdx,Sf.knowns]
 |v::l,i=>by
  unfold unkIdx Sf.knowns;cases h:Sf.known v
  ·simp
  ·simp only[if_true,Z5];exact bqh l (i+1)
theorem cz6(is:List V)(hn:is.length<=9223372036854775807)(hf:∀x∈is,∀h,AT 133 [x.A] h (.bool (!Sf.known x)))(h:Hp):AT 146 [.sl 5 .no (V.cellss is),.fn 133 []] h (.int .i64 (unkIdx 0 is)):=by
 refine pcall ?_ rfl (by simp[A.pure,A.data]) h;refine aza mixedT cjo (by simp[ayg]) ?_;dsimp only[ayg];obtain⟨D,hD⟩:=Ex (unkIdx 0 is);rw[hD];refine azb @V.cellss_length ?_;refine azh (fun mm ts h=>∃(j:Nat),mm=is.length-j/\j<=is.length/\h=⟨[],[]⟩/\unkIdx j (is.drop j)=D/\ts 0=.sl 5 .no (V.cellss is)/\ts 1=.fn 133 []/\ts 7=.int .i64 (is.length:Nat)/\ts 8=.int .i64 (j:Nat)) is.length ?_ ?_
 ·exact⟨0,by omega,by omega,rfl,hD,by(exact ev0 ti),by(exact ev0 ti),by(exact ev0 @V.cellss_length),by(exact aqj ti)⟩
 rintro mm ts h ⟨j,rfl,hjc,rfl,hit,t0,t1,t7,t8⟩;by_cases hj:j<is.length
 ·have hlt:(j:Int)<(is.length:Int):=by omega
  have hlt':(j:Int)<((V.cellss is).length:Int):=by rw[V.cellss_length];exact hlt
  have hj0:(0:Int)<=(j:Int):=by omega
  have ei:IntKind.i64.wrap ((j:Int)+1)=((j+1:Nat):Int):=by rw[wrap64 (by omega) (by omega)];omega
  have hg:=V.cellss_get is j hj;have cf:=hf is[j] (ZF hj);rw[ZX hj]at hit;unfold unkIdx at hit;obtain⟨x,hx⟩:=Ex (is[j]);rw[hx]at hg cf hit;obtain⟨K,hK⟩:=Ex (Sf.known x);rw[hK]at cf hit;obtain⟨k,n,w,vi,vy⟩:=x;have hVA:(V.mk k n w vi vy).A=.agg [.int .i64 k,.int .i64 n,.str w,.sl 5 .no (V.cellss vi),.sl 1 .no (strsA vy)]:=by simp only[V.A,V.cells]
  rw[hVA]at cf;simp only[V.cells]at hg;refine azb (ai t0 (ai t1 (ai t7 (ai t8 (ai hlt (ai hg (ai hlt' hj0))))))) ?_;refine use (cf _) ?_;cases K
  ·rw[if_neg (by simp)]at hit;subst hit;refine azb (ai t0 (ai t1 (ai t7 t8))) ?_;exact Fn rfl
  ·rw[if_pos rfl]at hit;refine azb (ai t0 (ai t1 (ai t7 (ai t8 ei)))) ?_;exact⟨is.length-(j+1),by omega,j+1,rfl,by omega,rfl,hit,by(exact ev0 t0),by(exact ev0 t1),by(exact ev0 t7),by(exact ev0 ei)⟩
 ·have hlt:¬((j:Int)<(is.length:Int)):=by omega
  rw[Y5 (by omega)]at hit;unfold unkIdx at hit;subst hit;refine azb (ai t0 (ai t1 (ai t7 (ai t8 hlt)))) ?_;exact Fn rfl
theorem cw1:∀(v:V),v.lens->∀h,AT 115 [v.A] h (.bool (Sf.known v)):=by
 refine V.induct ?_;intro k n s is ks ih hl h;have hlen:is.length<=9223372036854775807:=by have h1:=hl.1;unfold maxLen at h1;omega
 have hf:∀x∈is,∀h,AT 133 [x.A] h (.bool (!Sf.known x)):=by
  intro x hx h;have ck:=ih x hx (V.lensS_mem hl.2.2.2.2 x hx);obtain⟨K,hK⟩:=Ex (Sf.known x);rw[hK]at ck⊢;obtain⟨k,n,w,vi,vy⟩:=x;have hVA:(V.mk k n w vi vy).A=.agg [.int .i64 k,.int .i64 n,.str w,.sl 5 .no (V.cellss vi),.sl 1 .no (strsA vy)]:=by simp only[V.A,V.cells]
  rw[hVA]at ck⊢;refine pcall ?_ rfl (by simp[A.pure,A.data]) h;refine aza mixedT czk (by simp[ak1]) ?_;dsimp only[ak1];refine azb ti ?_;refine use (ck _) ?_;refine azb ti ?_;exact Fn rfl
 have hc:∀h,AT 132 [.sl 5 .no (V.cellss is),.fn 133 []] h (.bool (!Sf.knowns is)):=by
  intro h;refine pcall ?_ rfl (by simp[A.pure,A.data]) h;refine aza mixedT bjp (by simp[ax9]) ?_;dsimp only[ax9];have hge:=bqh is 0;have ca:=cz6 is hlen hf;obtain⟨D,hD⟩:=Ex (unkIdx 0 is);rw[hD]at hge ca;refine azb ti ?_;refine use (ca _) ?_;by_cases hd:D>=0
  ·rw[hge.1 hd];refine azb hd ?_;exact Fn rfl
  ·have hk:Sf.knowns is=true:=by cases hk:Sf.knowns is;exact absurd (hge.2 hk) hd;rfl
   rw[hk];refine azb hd ?_;exact Fn rfl
 have hVA:(V.mk k n s is ks).A=.agg [.int .i64 k,.int .i64 n,.str s,.sl 5 .no (V.cellss is),.sl 1 .no (strsA ks)]:=by simp only[V.A,V.cells]
 have hK:Sf.known (.mk k n s is ks)=(k !=6&&Sf.knowns is):=by simp[Sf.known]
 rw[hVA,hK];refine pcall ?_ rfl (by simp[A.pure,A.data]) h;refine aza mixedT cxg (by simp[bzq]) ?_;dsimp only[bzq];by_cases h6:k=6
 ·have e:(k !=6)=false:=by simp[h6]
  rw[e];refine azb e ?_;exact Fn rfl
 ·have e:(k !=6)=true:=by simp[h6]
  rw[e];refine azb e ?_;refine use (hc _) ?_;cases Sf.knowns is
  ·refine azb ti ?_;exact Fn rfl
  ·refine azb ti ?_;exact Fn rfl
end AX
end
section
open Go.RowKit
open Go.Op (bytesLess)
namespace AX
def bxo:AX.AFn:=⟨18,aS [aR 2 (.mv (aI 0))] (aS [aR 3 (.mv (aI 0))] (.seq (aS [aM 6 0,aR 7 (.len false (.t 6)),aR 8 (.mv (aI 0))] (.block 0 (.loop (aS [aR 9 (.bin .lss (.t 8) (.t 7))] (.seq (.cond (.t 9) (.skip) (.exit 0)) (.seq (.block 1 (aS [aR 10 (.iaddr 1 (.t 6) (.t 8)),aL 11 10,aM 5 11] (aS [aM 12 5,aM 13 3,aR 14 (.bin .neq (.t 12) (.t 13))] (.cond (.t 14) (aS [aM 15 5,aM 2 15] (.ret)) (.skip))))) (.reg false [aR 16 (.bin .add (.t 8) (aI 1)),aM 8 16]))))))) (aS [aM 17 3,aM 2 17] (.ret)))),[.t 2]⟩
theorem cka:AX.compFn Tryz.prog 117=some bxo:=by kernel_rfl
def avb:AX.AFn:=⟨17,aS [aR 2 (.box 126 (.t 0)),aR 3 (.box 126 (.t 1)),aR 4 (.mv (aI 0))] (.seq (.reg true [aF 5 0 2,⟨some 6,.load false 1 (.t 5),none,[0]⟩,aF 7 0 3,⟨some 8,.load false 1 (.t 7),none,[2]⟩,⟨some 9,.call 44 [.t 6,.t 8],none,[1,3]⟩,aF 10 1 2,⟨some 11,.load false 1 (.t 10),none,[5]⟩,aF 12 1 3,⟨some 13,.load false 1 (.t 12),none,[7]⟩,⟨some 14,.call 44 [.t 11,.t 13],none,[6,8,4]⟩,⟨some 15,.mks 1 [.t 9,.t 14],none,[4,9]⟩,⟨some 16,.call 117 [.t 15],none,[10,9]⟩,⟨some 4,.mv (.t 16),none,[11,11,0,1,2,3,4,5,6,7,8,9,10,11]⟩]) (.ret)),[.t 4]⟩
theorem bv1:AX.compFn Tryz.prog 86=some avb:=by kernel_rfl
theorem dqm(a b:Int)(h:Hp):AT 117 [.sl 1 .no [[.int .i64 a],[.int .i64 b]]] h (.int .i64 (if a≠0 then a else b)):=by
 refine pcall ?_ rfl (by simp[A.pure,A.data]) h;refine aza mixedT cka (by simp[bxo]) ?_;dsimp only[bxo];refine azb ti ?_;have ew0:IntKind.i64.wrap ((0:Int)+1)=1:=by decide
 have ew1:IntKind.i64.wrap ((1:Int)+1)=2:=by decide
 have en1:Int.toNat 1=1:=rfl;have lt0:(0:Int)<((2:Nat):Int):=by decide
 have lt1:(1:Int)<((2:Nat):Int):=by decide
 have lt2:¬(2:Int)<((2:Nat):Int):=by decide
 have le1:(0:Int)<=1:=by decide
 refine azh (fun mm ts h=>h=⟨[],[]⟩/\ts 3=.int .i64 0/\ts 6=.sl 1 .no [[.int .i64 a],[.int .i64 b]]/\ts 7=.int .i64 ((2:Nat):Int)/\((mm=2/\ts 8=.int .i64 0)\/(mm=1/\ts 8=.int .i64 1/\a=0)\/(mm=0/\ts 8=.int .i64 2/\a=0/\b=0))) 2 ?_ ?_
 ·exact⟨rfl,by(exact ev0 ti),by(exact ev0 ti),by(exact ev0 ti),.inl ⟨rfl,by(exact ev0 ti)⟩⟩
 rintro mm ts h ⟨rfl,t3,t6,t7,⟨rfl,t8⟩|⟨rfl,t8,ha⟩|⟨rfl,t8,ha,hb⟩⟩
 ·by_cases ha:a=0
  ·have e1:(a !=0)=false:=by simp[ha]
   refine azb (ai t3 (ai t6 (ai t7 (ai t8 (ai e1 (ai ew0 lt0)))))) ?_;exact⟨1,by omega,rfl,by(exact ev0 t3),by(exact ev0 t6),by(exact ev0 t7),.inr (.inl ⟨rfl,by(exact ev0 ew0),ha⟩)⟩
  ·have e1:(a !=0)=true:=by simp[ha]
   refine azb (ai t3 (ai t6 (ai t7 (ai t8 (ai e1 lt0))))) ?_;exact⟨_,le_refl _,by rw[if_pos ha];rfl⟩
 ·by_cases hb:b=0
  ·have e1:(b !=0)=false:=by simp[hb]
   refine azb (ai t3 (ai t6 (ai t7 (ai t8 (ai e1 (ai ew1 (ai en1 (ai lt1 le1)))))))) ?_;exact⟨0,by omega,rfl,by(exact ev0 t3),by(exact ev0 t6),by(exact ev0 t7),.inr (.inr ⟨rfl,by(exact ev0 ew1),ha,hb⟩)⟩
  ·have e1:(b !=0)=true:=by simp[hb]
   refine azb (ai t3 (ai t6 (ai t7 (ai t8 (ai e1 (ai en1 (ai lt1 le1))))))) ?_;exact⟨_,le_refl _,by rw[if_neg (by simp[ha])];rfl⟩
 ·refine azb (ai t3 (ai t6 (ai t7 (ai t8 lt2)))) ?_;exact⟨_,le_refl _,by rw[if_neg (by simp[ha]),hb];rfl⟩
def dz5(a b c d:List UInt8):Int:=if cmpZ a c≠0 then cmpZ a c else cmpZ b d
theorem bw8(L:Leafs)(a b c d:List UInt8)(h:Hp):AT 86 [.agg [.str a,.str b],.agg [.str c,.str d]] h (.int .i64 (dz5 a b c d)):=by
 refine pcall ?_ rfl (by simp[A.pure,A.data]) h;refine aza mixedT bv1 (by simp[avb]) ?_;dsimp only[avb];refine azb ti ?_;refine use (L.cmp a c _) ?_;refine azb ti ?_;refine use (L.cmp b d _) ?_;refine azb ti ?_;refine use (dqm (cmpZ a c) (cmpZ b d) _) ?_;refine azb ti ?_;exact Fn rfl
theorem ckm(x y:Sf.Inst):(dz5 x.addr x.dep y.addr y.dep>=0)↔Sf.behind x y=false:=by
 unfold dz5 Sf.behind cmpZ;by_cases h1:x.addr=y.addr
 ·have irr:bytesLess y.addr y.addr=false:=by
   have:=Val.less_total y.addr y.addr;cases h:bytesLess y.addr y.addr
   ·rfl
   ·rw[h]at this;simp at this
  rw[h1,irr];by_cases h2:x.dep=y.dep
  ·have irr2:bytesLess y.dep y.dep=false:=by
    have:=Val.less_total y.dep y.dep;cases h:bytesLess y.dep y.dep
    ·rfl
    ·rw[h]at this;simp at this
   simp[h2,irr2]
  ·cases h3:bytesLess x.dep y.dep<;>simp[h2]
 ·cases h3:bytesLess x.addr y.addr<;>simp[h1]
structure Sf.StIn(s:Sf.St):Prop where
 lin:s.lin.length<=2000000
 insts:∀x∈s.insts,Sf.InstIn x
 pends:∀x∈s.pends,x.addr.length<=2000000/\x.tok.length<=2000000
 outs:∀x∈s.outs,x.name.length<=2000000/\x.value.lens
 li:s.insts.length<=1000000000
 lp:s.pends.length<=1000000000
 lo:s.outs.length<=1000000000
theorem cqh(L:Leafs)(st:Sf.St)(ok:Sf.StIn st):SCheck st:=by
 intro h;obtain⟨lin,ser,ins,ps,os⟩:=st;have ct:=fun h=>L.text lin ok.lin h
 have li:ins.length<=1000000000:=ok.li;have lp:ps.length<=1000000000:=ok.lp;have lo:os.length<=1000000000:=ok.lo;have lm1:(ins.map Sf.Inst.cells).length=ins.length:=Zl _;have lm2:(ps.map Sf.Pend.cells).length=ps.length:=Zl _;have lm3:(os.map Sf.Outp.cells).length=os.length:=Zl _;obtain⟨Z,hZ⟩:=Ex (Sf.checkZ ⟨lin,ser,ins,ps,os⟩);rw[hZ];unfold Sf.checkZ at hZ;dsimp only at hZ;refine pcall ?_ rfl (by simp[A.pure,A.data,Sf.St.A]) h;refine aza mixedT cj8 (by simp[bzm]) ?_;dsimp only[bzm,Sf.St.A];refine azb ti ?_;refine use (ct _) ?_;cases hT:Sf.text lin
 ·rw[hT,if_pos (by decide)]at hZ;subst hZ;refine azb ti ?_;exact Fn rfl
 rw[hT,if_neg (by decide)]at hZ;by_cases s0:ser<0
 ·rw[if_pos (.inl s0)]at hZ;subst hZ;refine azb s0 ?_;exact Fn rfl
 by_cases s1:ser>9007199254740992
 ·rw[if_pos (.inr s1)]at hZ;subst hZ;refine azb (ai s0 s1) ?_;exact Fn rfl
 rw[if_neg (by omega)]at hZ;obtain⟨mx,hmx⟩:∃mx:Int,(if(os.length:Int)>(if(ps.length:Int)>(ins.length:Int)then(ps.length:Int)else(ins.length:Int))then(os.length:Int)else(if(ps.length:Int)>(ins.length:Int)then(ps.length:Int)else(ins.length:Int)))=mx:=⟨_,rfl⟩;have hm5:mx>512↔(512<ins.length\/512<ps.length\/512<os.length):=by
  rw[<-hmx];split<;>split<;>omega
 by_cases hm:mx>512
 ·rw[if_pos (hm5.1 hm)]at hZ;subst hZ;refine azb (ai s0 (ai s1 (ai lm1 (ai lm2 (ai lm3 (ai hmx hm)))))) ?_;exact Fn rfl
 rw[if_neg (fun e=>hm (hm5.2 e))]at hZ;obtain⟨I,hI⟩:=Ex (Sf.instsZ none ins);obtain⟨P,hP⟩:=Ex (Sf.pendsZ none ps);obtain⟨O,hO⟩:=Ex (Sf.outsZ none os);have fi1:∀z,z≠0->z=I->Z=z:=fun z h e=>by rw[hI,<-e,if_pos h]at hZ;exact hZ.symm
 have fi2:I=0->(if P≠0 then P else O)=Z:=fun e=>by rw[hI,hP,hO,e,if_neg (by simp)]at hZ;exact hZ
 refine azb (ai s0 (ai s1 (ai lm1 (ai lm2 (ai lm3 (ai hmx hm)))))) ?_;refine azh (fun mm ts h=>∃(j:Nat) (l:List Blk),mm=ins.length-j/\j<=ins.length/\h=⟨.cells 58 [.str lin,.int .i64 ser,.sl 13 .no (ins.map Sf.Inst.cells),.sl 3 .no (ps.map Sf.Pend.cells),.sl 7 .no (os.map Sf.Outp.cells)]::l,[]⟩/\Sf.instsZ (if j=0 then none else ins[j-1]?) (ins.drop j)=I/\ts 1=.ptr 0 0/\ts 35=.sl 13 .no (ins.map Sf.Inst.cells)/\ts 36=.int .i64 (ins.length:Nat)/\ts 37=.int .i64 (j:Nat)) ins.length ?_ ?_
 ·exact⟨0,[],by omega,by omega,rfl,hI,by(exact ev0 ti),by(exact ev0 ti),by(exact ev0 (ai lm1 (ai lm2 lm3))),by(exact aqj ti)⟩
 rintro mm ts h ⟨j,l,rfl,hjc,rfl,hit,t1,ta,tb,tc⟩;by_cases hj:j<ins.length
 ·have hlt:(j:Int)<(ins.length:Int):=by omega
  have hlt':(j:Int)<((ins.map Sf.Inst.cells).length:Int):=by rw[Zl];exact hlt
  have hj0:(0:Int)<=(j:Int):=by omega
  have ei:IntKind.i64.wrap ((j:Int)+1)=((j+1:Nat):Int):=by rw[wrap64 (by omega) (by omega)];omega
  have hg:=azy Sf.Inst.cells ins j hj;have hm:=ZF hj;rw[ZX hj]at hit;obtain⟨x,hx⟩:=Ex (ins[j]);rw[hx]at hit hg hm;have ci:=fun h=>bkc L x (ok.insts x hm) h
  have cp:=fun h=>bqj x h
  have hxj:ins[j]?=some x:=by rw[Zi hj,hx]
  have hx2:=Ex x;unfold Sf.instsZ at hit;obtain⟨Z1,hZ1⟩:=Ex (Sf.instZ x);rw[hZ1]at ci hit;have cge:=fun y=>ckm y x
  have cc:=fun(y:Sf.Inst) h=>bw8 L y.addr y.dep x.addr x.dep h
  have nx:Sf.instsZ (some x) (ins.drop (j+1))=I->Sf.instsZ (if j+1=0 then none else ins[j+1-1]?) (ins.drop (j+1))=I:=fun e=>by rw[if_neg (by omega),Nat.add_sub_cancel,hxj];exact e
  clear hx2 hm hZ1;have cells:∃a d id ty k n s is ks v tn fi ds,x=⟨a,d,id,ty,.mk k n s is ks,v,tn,fi,ds⟩:=by obtain⟨a,d,id,ty,⟨k,n,s,is,ks⟩,v,tn,fi,ds⟩:=x;exact⟨_,_,_,_,_,_,_,_,_,_,_,_,_,rfl⟩
  obtain⟨a,d,id,ty,k,n,s,is,ks,v,tn,fi,ds,hxe⟩:=cells;have hxc:x.cells=[.str a,.str d,.str id,.str ty,.int .i64 k,.int .i64 n,.str s,.sl 5 .no (V.cellss is),.sl 1 .no (strsA ks),.int .i64 v,.bool tn,.bool fi,.sl 1 .no (strsA ds)]:=by rw[hxe];rfl
  rw[hxc]at ci cp hg;refine azb (ai t1 (ai ta (ai tb (ai tc (ai hlt (ai hg (ai hlt' hj0))))))) ?_;refine use (ci _) ?_;by_cases hz:Z1=0
  rotate_left
  ·have e1:(Z1 !=0)=true:=by simp[hz]
   rw[if_pos hz]at hit;have hZf:=fi1 Z1 hz hit;refine azb (ai t1 (ai ta (ai tb (ai tc e1)))) ?_;exact⟨_,le_refl _,by rw[hZf];rfl⟩
  have e1:(Z1 !=0)=false:=by simp[hz]
  rw[if_neg (by simp[hz])]at hit;cases j with
  |zero=>
   have h0:¬((0:Nat):Int)>0:=by omega
   simp only[if_true,Zo,if_false]at hit;refine azb (ai t1 (ai ta (ai tb (ai tc (ai e1 (ai h0 ei)))))) ?_;exact⟨ins.length-(0+1),by omega,0+1,l++[.cells 89 [.str a,.str d,.str id,.str ty,.int .i64 k,.int .i64 n,.str s,.sl 5 .no (V.cellss is),.sl 1 .no (strsA ks),.int .i64 v,.bool tn,.bool fi,.sl 1 .no (strsA ds)]],rfl,by omega,rfl,nx hit,by(exact ev0 t1),by(exact ev0 ta),by(exact ev0 tb),by(exact ev0 ei)⟩
  |succ i=>
   have h0:((i+1:Nat):Int)>0:=by omega
   have ej:IntKind.i64.wrap (((i+1:Nat):Int)-1)=(i:Int):=by rw[wrap64 (by omega) (by omega)];omega
   have hg2:=azy Sf.Inst.cells ins i (by omega);have hi':(i:Int)<((ins.map Sf.Inst.cells).length:Int):=by rw[Zl];omega
   have hi0:(0:Int)<=(i:Int):=by omega
   have hki:ins[i+1-1]?=some (ins[i]'(by omega)):=Zi (by omega);rw[show(if i+1=0 then none else ins[i+1-1]?)=(some (ins[i]'(by omega)))from by rw[if_neg (by omega),hki]]at hit;obtain⟨y,hy⟩:=Ex (ins[i]'(by omega));rw[hy]at hit hg2;dsimp only at hit;have cpy:=fun h=>bqj y h
   have hyc:∃b1 b2 b3 b4 b5 b6 b7 b8 b9 c1 c2 c3 c4,y.cells=[.str b1,.str b2,.str b3,.str b4,.int .i64 b5,.int .i64 b6,.str b7,.sl 5 .no (V.cellss b8),.sl 1 .no (strsA b9),.int .i64 c1,.bool c2,.bool c3,.sl 1 .no (strsA c4)]:=by obtain⟨a,d,id,ty,⟨k,n,s,is,ks⟩,v,tn,fi,ds⟩:=y;exact⟨_,_,_,_,_,_,_,_,_,_,_,_,_,rfl⟩
   obtain⟨b1,b2,b3,b4,b5,b6,b7,b8,b9,c1,c2,c3,c4,hyc⟩:=hyc;rw[hyc]at hg2 cpy;have cg:=cge y;have cy:=cc y;obtain⟨c,hc⟩:=Ex (dz5 y.addr y.dep x.addr x.dep);rw[hc]at cg cy;refine azb (ai t1 (ai ta (ai tb (ai tc (ai e1 (ai h0 (ai ej (ai hg2 (ai hi' hi0))))))))) ?_;refine use (cpy _) ?_;refine azb (ai t1 (ai ta (ai tb tc))) ?_;refine use (cp _) ?_;refine azb (ai t1 (ai ta (ai tb tc))) ?_;refine use (cy _) ?_;by_cases hcz:c>=0
   ·simp only[cg.1 hcz,Z9,if_true]at hit;have hZf:=fi1 1 (by decide) hit;refine azb (ai t1 (ai ta (ai tb (ai tc hcz)))) ?_;exact⟨_,le_refl _,by rw[hZf];rfl⟩
   ·have hb:Sf.behind y x=true:=by cases hb:Sf.behind y x;exact absurd (cg.2 hb) hcz;rfl
    simp only[hb,Ye,Zo,if_false]at hit;refine azb (ai t1 (ai ta (ai tb (ai tc (ai hcz ei))))) ?_;exact⟨ins.length-((i+1)+1),by omega,(i+1)+1,l++[.cells 89 [.str a,.str d,.str id,.str ty,.int .i64 k,.int .i64 n,.str s,.sl 5 .no (V.cellss is),.sl 1 .no (strsA ks),.int .i64 v,.bool tn,.bool fi,.sl 1 .no (strsA ds)]],rfl,by omega,rfl,nx hit,by(exact ev0 t1),by(exact ev0 ta),by(exact ev0 tb),by(exact ev0 ei)⟩
 have hlt:¬((j:Int)<(ins.length:Int)):=by omega
 rw[Y5 (by omega)]at hit;unfold Sf.instsZ at hit;have fi2:=fi2 hit.symm;refine azb (ai t1 (ai ta (ai tb (ai tc (ai hlt (ai lm1 (ai lm2 lm3))))))) ?_;clear hit hlt hjc ta tb tc fi1;have fj1:∀z,z≠0->z=P->Z=z:=fun z h e=>by rw[<-e,if_pos h]at fi2;exact fi2.symm
 have fj2:P=0->Z=O:=fun e=>by rw[e,if_neg (by simp)]at fi2;exact fi2.symm
 obtain⟨l0,hl0⟩:∃l0:List Blk,l=l0:=⟨_,rfl⟩;refine azh (fun mm ts h=>∃(j:Nat) (l:List Blk),mm=ps.length-j/\j<=ps.length/\h=⟨.cells 58 [.str lin,.int .i64 ser,.sl 13 .no (ins.map Sf.Inst.cells),.sl 3 .no (ps.map Sf.Pend.cells),.sl 7 .no (os.map Sf.Outp.cells)]::l,[]⟩/\Sf.pendsZ (if j=0 then none else ps[j-1]?.map Sf.Pend.tok) (ps.drop j)=P/\ts 1=.ptr 0 0/\ts 64=.sl 3 .no (ps.map Sf.Pend.cells)/\ts 65=.int .i64 (ps.length:Nat)/\ts 66=.int .i64 (j:Nat)) ps.length ?_ ?_
 ·exact⟨0,l,by omega,by omega,rfl,hP,by(exact ev0 t1),by(exact ev0 t1),by(exact ev0 (ai t1 (ai lm1 (ai lm2 lm3)))),by(exact aqj t1)⟩
 rintro mm ts h ⟨j,l,rfl,hjc,rfl,hit,t1,ta,tb,tc⟩;by_cases hj:j<ps.length
 ·have hlt:(j:Int)<(ps.length:Int):=by omega
  have hlt':(j:Int)<((ps.map Sf.Pend.cells).length:Int):=by rw[Zl];exact hlt
  have hj0:(0:Int)<=(j:Int):=by omega
  have ei:IntKind.i64.wrap ((j:Int)+1)=((j+1:Nat):Int):=by rw[wrap64 (by omega) (by omega)];omega
  have hg:=azy Sf.Pend.cells ps j hj;have hm:=ZF hj;rw[ZX hj]at hit;obtain⟨x,hx⟩:=Ex (ps[j]);rw[hx]at hit hg hm;have hin:=ok.pends x hm;have ct:=fun h=>L.text x.tok hin.2 h
  have cm:=fun h=>bqf L x.addr x.typ hin.1 h
  have hxj:ps[j]?=some x:=by rw[Zi hj,hx]
  unfold Sf.pendsZ Sf.pendB at hit;have nx:Sf.pendsZ (some x.tok) (ps.drop (j+1))=P->Sf.pendsZ (if j+1=0 then none else ps[j+1-1]?.map Sf.Pend.tok) (ps.drop (j+1))=P:=fun e=>by rw[if_neg (by omega),Nat.add_sub_cancel,hxj];exact e
  simp only[Sf.Pend.cells]at hg;obtain⟨T,hT⟩:=Ex (Sf.text x.tok);rw[hT]at ct hit;obtain⟨M,hM⟩:=Ex (Sf.managed x.addr x.typ);rw[hM]at cm hit;refine azb (ai t1 (ai ta (ai tb (ai tc (ai hlt (ai hg (ai hlt' hj0))))))) ?_;refine use (ct _) ?_;cases T
  ·rw[if_pos (by simp)]at hit;have hZf:=fj1 1 (by decide) hit;refine azb (ai t1 (ai ta (ai tb tc))) ?_;exact⟨_,le_refl _,by rw[hZf];rfl⟩
  refine azb (ai t1 (ai ta (ai tb tc))) ?_;refine use (cm _) ?_;cases M
  ·rw[if_pos (by simp)]at hit;have hZf:=fj1 1 (by decide) hit;refine azb (ai t1 (ai ta (ai tb tc))) ?_;exact⟨_,le_refl _,by rw[hZf];rfl⟩
  cases j with
  |zero=>
   have h0:¬((0:Nat):Int)>0:=by omega
   rw[if_neg (by simp[Val.badB])]at hit;refine azb (ai t1 (ai ta (ai tb (ai tc (ai h0 ei))))) ?_;exact⟨ps.length-(0+1),by omega,0+1,l++[.cells 130 [.str x.addr,.str x.typ,.str x.tok]],rfl,by omega,rfl,nx hit,by(exact ev0 t1),by(exact ev0 ta),by(exact ev0 tb),by(exact ev0 ei)⟩
  |succ i=>
   have h0:((i+1:Nat):Int)>0:=by omega
   have ej:IntKind.i64.wrap (((i+1:Nat):Int)-1)=(i:Int):=by rw[wrap64 (by omega) (by omega)];omega
   have hg2:=azy Sf.Pend.cells ps i (by omega);have hi':(i:Int)<((ps.map Sf.Pend.cells).length:Int):=by rw[Zl];omega
   have hi0:(0:Int)<=(i:Int):=by omega
   have hki:ps[i+1-1]?=some (ps[i]'(by omega)):=Zi (by omega);rw[show(if i+1=0 then none else ps[i+1-1]?.map Sf.Pend.tok)=(some (ps[i]'(by omega))).map Sf.Pend.tok from by rw[if_neg (by omega),hki]]at hit;obtain⟨y,hy⟩:=Ex (ps[i]'(by omega));rw[hy]at hit hg2;simp only[Sf.Pend.cells]at hg2;simp only[ZR,Val.badB]at hit;cases hb:bytesLess y.tok x.tok
   ·simp only[hb,Z5,ZW,Ye,Z9,YA,Y1,if_true]at hit;have hZf:=fj1 1 (by decide) hit;refine azb (ai t1 (ai ta (ai tb (ai tc (ai h0 (ai ej (ai hg2 (ai hi' (ai hi0 hb))))))))) ?_;exact⟨_,le_refl _,by rw[hZf];rfl⟩
   ·simp only[hb,Z5,ZW,Ye,Z9,YA,Zab,Zo,if_false]at hit;refine azb (ai t1 (ai ta (ai tb (ai tc (ai h0 (ai ej (ai hg2 (ai hi' (ai hi0 (ai hb ei)))))))))) ?_;exact⟨ps.length-((i+1)+1),by omega,(i+1)+1,l++[.cells 130 [.str x.addr,.str x.typ,.str x.tok]],rfl,by omega,rfl,nx hit,by(exact ev0 t1),by(exact ev0 ta),by(exact ev0 tb),by(exact ev0 ei)⟩
 have hlt:¬((j:Int)<(ps.length:Int)):=by omega
 rw[Y5 (by omega)]at hit;unfold Sf.pendsZ at hit;have fj2:=fj2 hit.symm;refine azb (ai t1 (ai ta (ai tb (ai tc (ai hlt (ai lm1 (ai lm2 lm3))))))) ?_;clear hit hlt hjc ta tb tc fj1 hl0 l0;refine azh (fun mm ts h=>∃(j:Nat) (l:List Blk),mm=os.length-j/\j<=os.length/\h=⟨.cells 58 [.str lin,.int .i64 ser,.sl 13 .no (ins.map Sf.Inst.cells),.sl 3 .no (ps.map Sf.Pend.cells),.sl 7 .no (os.map Sf.Outp.cells)]::l,[]⟩/\Sf.outsZ (if j=0 then none else os[j-1]?.map Sf.Outp.name) (os.drop j)=O/\ts 1=.ptr 0 0/\ts 101=.sl 7 .no (os.map Sf.Outp.cells)/\ts 102=.int .i64 (os.length:Nat)/\ts 103=.int .i64 (j:Nat)) os.length ?_ ?_
 ·exact⟨0,l,by omega,by omega,rfl,hO,by(exact ev0 t1),by(exact ev0 t1),by(exact ev0 (ai t1 (ai lm1 (ai lm2 lm3)))),by(exact aqj t1)⟩
 rintro mm ts h ⟨j,l,rfl,hjc,rfl,hit,t1,ta,tb,tc⟩;by_cases hj:j<os.length
 ·have hlt:(j:Int)<(os.length:Int):=by omega
  have hlt':(j:Int)<((os.map Sf.Outp.cells).length:Int):=by rw[Zl];exact hlt
  have hj0:(0:Int)<=(j:Int):=by omega
  have ei:IntKind.i64.wrap ((j:Int)+1)=((j+1:Nat):Int):=by rw[wrap64 (by omega) (by omega)];omega
  have hg:=azy Sf.Outp.cells os j hj;have hm:=ZF hj;rw[ZX hj]at hit;obtain⟨x,hx⟩:=Ex (os[j]);rw[hx]at hit hg hm;have hin:=ok.outs x hm;have ci:=fun h=>cjl L x hin.1 hin.2 h
  have hxj:os[j]?=some x:=by rw[Zi hj,hx]
  unfold Sf.outsZ at hit;have nx:Sf.outsZ (some x.name) (os.drop (j+1))=O->Sf.outsZ (if j+1=0 then none else os[j+1-1]?.map Sf.Outp.name) (os.drop (j+1))=O:=fun e=>by rw[if_neg (by omega),Nat.add_sub_cancel,hxj];exact e
  obtain⟨Z1,hZ1⟩:=Ex (Sf.outZ x);rw[hZ1]at ci hit;clear hZ1;obtain⟨m,⟨k,n,s,is,ks⟩,b⟩:=x;simp only[Sf.Outp.cells]at hg ci;dsimp only at hit nx;refine azb (ai t1 (ai ta (ai tb (ai tc (ai hlt (ai hg (ai hlt' hj0))))))) ?_;refine use (ci _) ?_;by_cases hz:Z1=0
  rotate_left
  ·have e1:(Z1 !=0)=true:=by simp[hz]
   rw[if_pos hz]at hit;refine azb (ai t1 (ai ta (ai tb (ai tc e1)))) ?_;exact⟨_,le_refl _,by rw[fj2,<-hit];rfl⟩
  have e1:(Z1 !=0)=false:=by simp[hz]
  rw[if_neg (by simp[hz])]at hit;cases j with
  |zero=>
   have h0:¬((0:Nat):Int)>0:=by omega
   rw[if_neg (by simp[Val.badB])]at hit;refine azb (ai t1 (ai ta (ai tb (ai tc (ai e1 (ai h0 ei)))))) ?_;exact⟨os.length-(0+1),by omega,0+1,l++[.cells 42 [.str m,.int .i64 k,.int .i64 n,.str s,.sl 5 .no (V.cellss is),.sl 1 .no (strsA ks),.bool b]],rfl,by omega,rfl,nx hit,by(exact ev0 t1),by(exact ev0 ta),by(exact ev0 tb),by(exact ev0 ei)⟩
  |succ i=>
   have h0:((i+1:Nat):Int)>0:=by omega
   have ej:IntKind.i64.wrap (((i+1:Nat):Int)-1)=(i:Int):=by rw[wrap64 (by omega) (by omega)];omega
   have hg2:=azy Sf.Outp.cells os i (by omega);have hi':(i:Int)<((os.map Sf.Outp.cells).length:Int):=by rw[Zl];omega
   have hi0:(0:Int)<=(i:Int):=by omega
   have hki:os[i+1-1]?=some (os[i]'(by omega)):=Zi (by omega);rw[show(if i+1=0 then none else os[i+1-1]?.map Sf.Outp.name)=(some (os[i]'(by omega))).map Sf.Outp.name from by rw[if_neg (by omega),hki]]at hit;obtain⟨y,hy⟩:=Ex (os[i]'(by omega));rw[hy]at hit hg2;obtain⟨m2,⟨k2,n2,s2,is2,ks2⟩,b2⟩:=y;simp only[Sf.Outp.cells]at hg2;simp only[ZR,Val.badB]at hit;cases hb:bytesLess m2 m
   ·simp only[hb,Z5,ZW,Ye,Z9,YA,Y1,if_true]at hit;refine azb (ai t1 (ai ta (ai tb (ai tc (ai e1 (ai h0 (ai ej (ai hg2 (ai hi' (ai hi0 hb)))))))))) ?_;exact⟨_,le_refl _,by rw[fj2,<-hit];rfl⟩
   ·simp only[hb,Z5,ZW,Ye,Z9,YA,Zab,Zo,if_false]at hit;refine azb (ai t1 (ai ta (ai tb (ai tc (ai e1 (ai h0 (ai ej (ai hg2 (ai hi' (ai hi0 (ai hb ei))))))))))) ?_;exact⟨os.length-((i+1)+1),by omega,(i+1)+1,l++[.cells 42 [.str m,.int .i64 k,.int .i64 n,.str s,.sl 5 .no (V.cellss is),.sl 1 .no (strsA ks),.bool b]],rfl,by omega,rfl,nx hit,by(exact ev0 t1),by(exact ev0 ta),by(exact ev0 tb),by(exact ev0 ei)⟩
 have hlt:¬((j:Int)<(os.length:Int)):=by omega
 rw[Y5 (by omega)]at hit;unfold Sf.outsZ at hit;refine azb (ai t1 (ai ta (ai tb (ai tc (ai hlt (ai lm1 (ai lm2 lm3))))))) ?_;exact⟨_,le_refl _,by rw[fj2,<-hit];rfl⟩
end AX
end
section
open Go.RowKit
namespace Adr
theorem mods_names(N:Nat):∀(f:Nat) (r:Rd) (l:List Step),r.rest.length<=N->(∀x∈l,x.name.length<=N)->(∀x∈(modsP f r l).1,x.name.length<=N)/\(modsP f r l).2.rest.length<=N/\(modsP f r l).1.length<=l.length+f
 |0,r,l,hr,hl=>⟨hl,hr,Ze _⟩
 |f+1,r,l,hr,hl=>by
  unfold modsP;split
  ·next hc=>
   have h1:=has_len modW r;have h2:=step_len (hasP modW r).2;have h3:=skip_len [46] (stepP (hasP modW r).2).2;have hn:(stepP (hasP modW r).2).1.name.length<=N:=Zr (word_len (hasP modW r).2).2 (by omega)
   obtain⟨q1,q2,q3⟩:=mods_names N f (skipP [46] (stepP (hasP modW r).2).2) (l++[(stepP (hasP modW r).2).1]) (by omega) (fun x hx=>by
    rcases Ya.1 hx with hx|hx
    ·exact hl x hx
    ·rw[ZB.1 hx];exact hn)
   exact⟨q1,q2,Zr q3 (by simp only[Za,Yv];omega)⟩
  ·exact⟨hl,hr,by dsimp only;omega⟩
theorem parse_names(s:List UInt8)(h:(parse s).2=0):(∀x∈(parse s).1.mods,x.name.length<=s.length)/\(parse s).1.mods.length<=s.length+1/\(parse s).1.type.length<=s.length/\(parse s).1.name.length<=s.length:=by
 rw[<-parse_eq]at h⊢;obtain⟨q1,q2,q3⟩:=mods_names s.length (s.length+1) ⟨s,false⟩ [] (Ze _) (by simp);unfold parseP at h⊢;dsimp only at h⊢;have l1:=has_len dataW (modsP (s.length+1) ⟨s,false⟩ []).2;have l2:=word_len (hasP dataW (modsP (s.length+1) ⟨s,false⟩ []).2).2;have l3:=skip_len [46] (wordP (hasP dataW (modsP (s.length+1) ⟨s,false⟩ []).2).2).2;have l4:=word_len (skipP [46] (wordP (hasP dataW (modsP (s.length+1) ⟨s,false⟩ []).2).2).2);split at h
 ·simp at h
 ·next h1=>
  rw[if_neg h1];split at h
  ·simp at h
  ·next h2=>
   rw[if_neg h2];dsimp only;exact⟨q1,by simpa using q3,by omega,by omega⟩
end Adr
namespace AX
theorem cjq(s:List UInt8)(hs:s.length<=2000000)(h:Hp):AT 134 [.str s] h (.tup [.str (Adr.static s).1,.int .i64 (Adr.static s).2]):=by
 refine pcall ?_ rfl (by simp[A.pure,A.data]) h;refine aza mixedT byr (by simp[ak8]) ?_;dsimp only[ak8];have cp:=fun h=>bwk s hs h
 have hS:Adr.static s=if(Adr.parse s).2≠0 then([],(Adr.parse s).2)else(Adr.fmt (Adr.bare (Adr.parse s).1),0):=rfl
 have hnm:=Adr.parse_names s;obtain⟨⟨a,e⟩,hp⟩:=Ex (Adr.parse s);rw[hp]at cp hS hnm;dsimp only at cp hS hnm;rw[hS];by_cases he:e=0
 rotate_left
 ·have e1:(e !=0)=true:=by simp[he]
  rw[if_pos he];obtain⟨mods,data,ty,nm,⟨kk,kn,ks⟩⟩:=a;dsimp only[Adr.Ad.cells]at cp;refine azb ti ?_;refine use (cp _) ?_;refine azb e1 ?_;exact Fn rfl
 have e1:(e !=0)=false:=by simp[he]
 rw[if_neg (by simp[he])];obtain⟨n1,n2,n3,n4⟩:=hnm he;have cs:=fun h=>cz3 a (by omega) h
 have cf:=fun h=>bym (Adr.bare a) ⟨by unfold Adr.bare;dsimp only;rw[Zl];omega,fun x hx=>by
   unfold Adr.bare at hx;obtain⟨y,hy,rfl⟩:=Yb.1 hx;have:=n1 y hy
   exact⟨Zr this hs,by simp[Adr.K.none]⟩,by unfold Adr.bare;dsimp only;omega,by unfold Adr.bare;dsimp only;omega,by unfold Adr.bare Adr.K.none;simp⟩
  (fun x hx=>by
   unfold Adr.bare at hx;obtain⟨y,hy,rfl⟩:=Yb.1 hx
   rfl) rfl h
 have hbc:(Adr.bare a).cells=[.sl 4 .no ((a.mods.map fun s=>(⟨s.name,Adr.K.none⟩:Adr.Step)).map Adr.Step.cells),.bool a.data,.str a.type,.str a.name,.int .i64 0,.int .i64 0,.str []]:=rfl;rw[hbc]at cs cf;obtain⟨F,hF⟩:=Ex (Adr.fmt (Adr.bare a));rw[hF]at cf⊢;clear hS n1 n2 n3 n4 hnm hp hbc;obtain⟨mods,data,ty,nm,⟨kk,kn,ks⟩⟩:=a;dsimp only[Adr.Ad.cells]at cp cs cf;refine azb ti ?_;refine use (cp _) ?_;refine azb e1 ?_;refine use (cs _) ?_;refine azb ti ?_;refine use (cf _) ?_;refine azb ti ?_;exact Fn rfl
theorem leafs:Leafs where
 parse:=bwk
 static:=cjq
 ident:=ax0
 num:=a_numParse
 cmp:=cyv
 known:=fun v hl h=>cw1 v hl h
 text:=fun s hs h=>(cwu s hs h).mono fun v h' hv=>hv
theorem axe(st:Sf.St)(ok:Sf.StIn st):SCheck st:=cqh leafs st ok
end AX
end
section
namespace Wire
theorem zig_zag(u:Nat):zig (zag u)=u:=by
 unfold zig zag;by_cases h:u%2=1
 ·rw[if_pos h,if_pos (by omega)];omega
 ·rw[if_neg h,if_neg (by omega)];omega
theorem grpF_back:∀(f i acc:Nat) (l:List UInt8) (n:Int) (long:Nat),i+f=9->grpF (f+1) i acc l=.ok n long->∃u,(0<i->u≠0)/\n=zag (acc+u*2^(7*i))/\i<long/\l=encF f u++l.drop (long-i)
 |f,i,acc,[],n,long,hi,h=>by simp[grpF]at h
 |0,i,acc,c::r,n,long,hi,h=>by
  simp only[grpF]at h;have hc:=c.toNat_lt;split at h
  ·cases h
  ·next h1=>
   split at h
   ·cases h
   ·next h2=>
    split at h
    ·cases h
    ·next h3=>
     injection h with e1 e2;refine⟨c.toNat,fun hp e=>h3 ⟨hp,YC.1 (by simpa using e)⟩,?_,by omega,?_⟩
     ·rw[<-e1,YQ (by omega)]
     ·rw[show long-i=1 by omega];simp[encF]
 |f+1,i,acc,c::r,n,long,hi,h=>by
  have hc:=c.toNat_lt
  have e0:grpF (f+1+1) i acc (c::r)=(if i=9/\1<c.toNat then .err 5
    else if 128<=c.toNat then grpF (f+1) (i+1) (acc+c.toNat%128*2^(7*i)) r
    else if 0<i/\c=0 then .err 1
    else .ok (zag (acc+c.toNat%128*2^(7*i))) (i+1)):=rfl
  rw[e0,if_neg (by omega)]at h;by_cases h2:128<=c.toNat
  ·rw[if_pos h2]at h;obtain⟨u,hu0,hn,hlt,hr⟩:=grpF_back f (i+1) _ r n long (by omega) h;have hu:=hu0 (by omega);have hp:(2:Nat)^(7*(i+1))=128*2^(7*i):=by rw[show 7*(i+1)=7+7*i by omega,Nat.pow_add]
   refine⟨c.toNat%128+128*u,fun _=>by omega,?_,by omega,?_⟩
   ·rw[hn,hp,Yo,<-Nat.mul_assoc,Nat.mul_comm u 128,Nat.add_assoc]
   ·unfold encF;rw[if_neg (by omega),show(c.toNat%128+128*u)%128=c.toNat%128 by omega,show(c.toNat%128+128*u)/128=u by omega,show c.toNat%128+128=c.toNat by omega,show long-i=(long-(i+1))+1 by omega,ZS];rw[ZL,<-hr];simp
  ·rw[if_neg h2]at h;split at h
   ·cases h
   ·next h3=>
    injection h with e1 e2;refine⟨c.toNat,fun hp e=>h3 ⟨hp,YC.1 (by simpa using e)⟩,?_,by omega,?_⟩
    ·rw[<-e1,YQ (by omega)]
    ·unfold encF;rw[if_pos (by omega),show long-i=1 by omega];simp
theorem grp_back{l:List UInt8}{n:Int}{long:Nat}(h:grp l=.ok n long):l=num n++l.drop long:=by
 obtain⟨u,_,hn,_,hl⟩:=grpF_back 9 0 0 l n long rfl h;unfold num;rw[hn];simp only[Yf,Nat.mul_zero,Nat.pow_zero,Nat.mul_one,zig_zag];exact hl
theorem grpF_err0:∀(f i u:Nat) (l:List UInt8),grpF f i u l≠.err 0
 |0,i,u,l,h=>by simp[grpF]at h
 |f+1,i,u,[],h=>by simp[grpF]at h
 |f+1,i,u,c::r,h=>by
  simp only[grpF]at h;split at h
  ·cases h
  ·split at h
   ·exact grpF_err0 f _ _ r h
   ·split at h<;>cases h
theorem numR_back{r:St}(h:(numR r).1.e=0):r.e=0/\r.rest=num (numR r).2++(numR r).1.rest:=by
 unfold numR at h⊢;by_cases he:r.e=0
 ·refine⟨he,?_⟩;rw[if_neg (by simp[he])]at h⊢;cases hg:grp r.rest with
  |err e=>
   exfalso
   rw[hg]at h;have h':e=0:=h;subst h';unfold grp at hg;exact grpF_err0 _ _ _ _ hg
  |ok n long=>exact grp_back hg
 ·rw[if_pos he]at h;exact absurd h he
theorem cntR_back{r:St}(h:(cntR r 1).1.e=0):r.e=0/\r.rest=num ((cntR r 1).2:Nat)++(cntR r 1).1.rest:=by
 unfold cntR at h⊢;by_cases he:r.e=0
 ·refine⟨he,?_⟩;rw[if_neg (by simp[he])]at h⊢;cases hg:grp r.rest with
  |err e=>
   exfalso
   rw[hg]at h;have h':e=0:=h;subst h';exact grpF_err0 _ _ _ _ hg
  |ok n long=>
   rw[hg]at h;dsimp only at h⊢;split at h
   ·simp at h
   ·next h1=>
    rw[if_neg h1];split at h
    ·simp at h
    ·next h2=>
     rw[if_neg h2];have:=grp_back hg;dsimp only;rw[show((n.toNat:Nat):Int)=n by omega];exact this
 ·rw[if_pos he]at h;exact absurd h he
theorem cntR_fit{r:St}(h:(cntR r 1).1.e=0):(cntR r 1).2<=(cntR r 1).1.rest.length:=by
 unfold cntR at h⊢;by_cases he:r.e=0
 ·rw[if_neg (by simp[he])]at h⊢;cases hg:grp r.rest with
  |err e=>
   rw[hg]at h;have h':e=0:=h;subst h';exact absurd hg (grpF_err0 _ _ _ _)
  |ok n long=>
   rw[hg]at h;dsimp only at h⊢;split at h
   ·simp at h
   ·next h1=>
    rw[if_neg h1];split at h
    ·simp at h
    ·next h2=>
     rw[if_neg h2];rw[Nat.div_one]at h2;dsimp only;rw[Zu];omega
 ·rw[if_pos he]at h;exact absurd h he
theorem strR_back{r:St}(h:(strR r).1.e=0):r.e=0/\r.rest=strE (strR r).2++(strR r).1.rest:=by
 unfold strR at h⊢;dsimp only at h⊢;split at h
 ·next h1=>exact absurd h h1
 ·next h1=>
  rw[if_neg h1];have h2:(cntR r 1).1.e=0:=by simpa using h1
  obtain⟨q1,q2⟩:=cntR_back h2;have q3:=cntR_fit h2;refine⟨q1,?_⟩;dsimp only;unfold strE;rw[Zm,Nat.min_eq_left q3,Zh,Yi];exact q2
end Wire
namespace Val
def Good(one:Wire.St->Res):Prop:=∀r,(one r).2.1=0->r.e=0/\(one r).1.e=0/\r.rest=enc (one r).2.2++(one r).1.rest
theorem encs_cons(m:Bool)(v:V)(l:List V)(ks:List (List UInt8)):encs m (v::l) ks=keyE m ks++(enc v++encs m l ks.tail):=by rw[encs]
theorem encs_false:∀(is:List V) (k1 k2:List (List UInt8)),encs false is k1=encs false is k2
 |[],_,_=>by rw[encs,encs]
 |v::l,k1,k2=>by rw[encs_cons,encs_cons,encs_false l k1.tail k2.tail];simp[keyE]
theorem itemsW_back{one:Wire.St->Res}(hg:Good one)(m:Bool):∀(c:Nat) (r:Wire.St) (is:List V) (ks:List (List UInt8)),(itemsW one m c r is ks).2.1=0 ->
  r.e=0/\(itemsW one m c r is ks).1.e=0/\∃is' ks',(itemsW one m c r is ks).2.2=(is++is',ks++ks')/\is'.length=c/\r.rest=encs m is' ks'++(itemsW one m c r is ks).1.rest
 |0,r,is,ks,h=>by
  unfold itemsW at h⊢;exact⟨h,h,[],[],by simp,rfl,by rw[encs];rfl⟩
 |c+1,r,is,ks,h=>by
  have step:∀(q:Wire.St×List UInt8) (k2:List (List UInt8)),(if(one q.1).2.1≠0 then((one q.1).1,(one q.1).2.1,is,ks)else itemsW one m c (one q.1).1 (is++[(one q.1).2.2]) k2).2.1=0 ->
    ∃(is':List V) (ks':List (List UInt8)),q.1.e=0/\(if(one q.1).2.1≠0 then((one q.1).1,(one q.1).2.1,is,ks)else itemsW one m c (one q.1).1 (is++[(one q.1).2.2]) k2).1.e=0 /\
     (if(one q.1).2.1≠0 then((one q.1).1,(one q.1).2.1,is,ks)else itemsW one m c (one q.1).1 (is++[(one q.1).2.2]) k2).2.2=(is++(one q.1).2.2::is',k2++ks')/\is'.length=c /\
     q.1.rest=enc (one q.1).2.2++(encs m is' ks'++(if(one q.1).2.1≠0 then((one q.1).1,(one q.1).2.1,is,ks)else itemsW one m c (one q.1).1 (is++[(one q.1).2.2]) k2).1.rest):=fun q k2 h=>by
   by_cases h1:(one q.1).2.1=0
   rotate_left
   ·rw[if_pos h1]at h;exact absurd h h1
   rw[if_neg (by simp[h1])]at h⊢;obtain⟨q1,q2,q3⟩:=hg _ h1;obtain⟨p1,p2,is',ks',p3,p4,p5⟩:=itemsW_back hg m c _ _ _ h;exact⟨is',ks',q1,p2,by rw[p3];simp,p4,by rw[<-p5];exact q3⟩
  cases m with
  |false=>
   have e:itemsW one false (c+1) r is ks=(if(one r).2.1≠0 then((one r).1,(one r).2.1,is,ks)else itemsW one false c (one r).1 (is++[(one r).2.2]) ks):=by rw[itemsW];rfl
   rw[e]at h⊢;obtain⟨is',ks',s1,s2,s3,s4,s5⟩:=step (r,[]) ks h;refine⟨s1,s2,_::is',ks',s3,by simp[s4],?_⟩;rw[encs_cons,encs_false is' ks'.tail ks'];simp only[keyE,ZA,Zh];exact s5
  |true=>
   have e:itemsW one true (c+1) r is ks=(if(one (Wire.strR r).1).2.1≠0 then((one (Wire.strR r).1).1,(one (Wire.strR r).1).2.1,is,ks)else itemsW one true c (one (Wire.strR r).1).1 (is++[(one (Wire.strR r).1).2.2]) (ks++[(Wire.strR r).2])):=by rw[itemsW];rfl
   rw[e]at h⊢;obtain⟨is',ks',s1,s2,s3,s4,s5⟩:=step (Wire.strR r) (ks++[(Wire.strR r).2]) h;obtain⟨t1,t2⟩:=Wire.strR_back s1;refine⟨t1,s2,(one (Wire.strR r).1).2.2::is',(Wire.strR r).2::ks',by rw[s3];simp,by simp[s4],?_⟩;rw[encs_cons,t2,s5];simp only[keyE,Zao,Zh]
theorem readW_back{one:Wire.St->Res}(hg:Good one):Good (readW one):=by
 intro r h;unfold readW at h⊢;by_cases he:r.e=0
 rotate_left
 ·rw[if_pos he]at h;exact absurd h he
 rw[if_neg (by simp[he])]at h⊢;dsimp only at h⊢;by_cases hq:(Wire.numR r).1.e=0
 rotate_left
 ·rw[if_pos hq]at h;exact absurd h hq
 rw[if_neg (by simp[hq])]at h⊢;obtain⟨_,hr⟩:=Wire.numR_back hq;obtain⟨⟨q,k⟩,hk⟩:=Ex (Wire.numR r);rw[hk]at h hq hr⊢;dsimp only at h hq hr⊢;split at h
 ·simp at h
 ·next h1=>
  rw[if_neg h1];split at h
  ·next h2=>
   rw[if_pos h2];obtain⟨n1,n2⟩:=Wire.numR_back h;refine⟨he,h,?_⟩;unfold enc;rw[if_pos h2,Zh,<-n2];exact hr
  ·next h2=>
   rw[if_neg h2];split at h
   ·next h3=>
    rw[if_pos h3];obtain⟨n1,n2⟩:=Wire.strR_back h;refine⟨he,h,?_⟩;unfold enc;rw[if_neg h2,if_pos h3,Zh,<-n2];exact hr
   ·next h3=>
    rw[if_neg h3];split at h
    ·next h4=>
     rw[if_pos h4];obtain⟨p1,p2,is',ks',p3,p4,p5⟩:=itemsW_back hg (k==5) _ _ _ _ h;refine⟨he,p2,?_⟩;rw[ZA,ZA]at p3;dsimp only;rw[p3];dsimp only;unfold enc;rw[if_neg h2,if_neg h3,if_pos h4,Zh,Zh,<-p5,p4,hr];obtain⟨_,c2⟩:=Wire.cntR_back p1;rw[<-c2]
    ·next h4=>
     rw[if_neg h4];refine⟨he,hq,?_⟩;unfold enc;rw[if_neg h2,if_neg h3,if_neg h4,Zx];exact hr
theorem read_back:∀f,Good (read f)
 |0=>fun r h=>by
  exfalso
  unfold read at h;dsimp only at h;split at h
  ·next h1=>exact h1 h
  ·simp at h
 |f+1=>by
  have:read (f+1)=readW (read f):=by funext r;rw[read]
  rw[this];exact readW_back (read_back f)
theorem readValue_back{r:Wire.St}(h:(readValue r).2.1=0):r.e=0/\(readValue r).1.e=0/\r.rest=enc (readValue r).2.2++(readValue r).1.rest:=by
 unfold readValue at h⊢;dsimp only at h⊢;split at h
 ·next h1=>exact absurd h h1
 ·next h1=>
  rw[if_neg h1];split at h
  ·next h2=>exact absurd h h2
  ·next h2=>
   rw[if_neg h2];exact read_back 32 r h
end Val
namespace Sf
theorem fails_iff(s:Rs):s.fails=false↔s.bad=false/\s.r.e=0:=by
 unfold Rs.fails;rw[Yq,bne_eq_false_iff_eq]
def Took(s s':Rs)(l:List UInt8):Prop:=s.fails=false/\s.r.rest=l++s'.r.rest
theorem Took.trans{a b c:Rs}{l m:List UInt8}(h:Took a b l)(k:Took b c m):Took a c (l++m):=⟨h.1,by rw[h.2,k.2,Zh]⟩
theorem num_took{s:Rs}(h:(numS s).1.fails=false):Took s (numS s).1 (Wire.num (numS s).2):=by
 obtain⟨h1,h2⟩:=(fails_iff _).1 h;obtain⟨q1,q2⟩:=Wire.numR_back h2;exact⟨(fails_iff _).2 ⟨h1,q1⟩,q2⟩
theorem str_took{s:Rs}(h:(strS s).1.fails=false):Took s (strS s).1 (Wire.strE (strS s).2):=by
 obtain⟨h1,h2⟩:=(fails_iff _).1 h;obtain⟨q1,q2⟩:=Wire.strR_back h2;exact⟨(fails_iff _).2 ⟨h1,q1⟩,q2⟩
theorem cnt_took{s:Rs}(h:(cntS s).1.fails=false):Took s (cntS s).1 (Wire.num ((cntS s).2:Nat)):=by
 obtain⟨h1,h2⟩:=(fails_iff _).1 h;obtain⟨q1,q2⟩:=Wire.cntR_back h2;exact⟨(fails_iff _).2 ⟨h1,q1⟩,q2⟩
theorem flag_took{s:Rs}(h:(flagS s).1.fails=false):Took s (flagS s).1 (flagE (flagS s).2):=by
 obtain⟨h1,h2⟩:=(fails_iff _).1 h;obtain⟨q1,q2⟩:=Wire.numR_back h2;have h1':(s.bad||((Wire.numR s.r).2 !=0&&(Wire.numR s.r).2 !=1))=false:=h1;rw[Yq]at h1';refine⟨(fails_iff _).2 ⟨h1'.1,q1⟩,?_⟩;have e:flagE (flagS s).2=Wire.num (Wire.numR s.r).2:=by
  show Wire.num (if((Wire.numR s.r).2==1)=true then 1 else 0)=_
  have h3:=h1'.2;rw[Zaj,bne_eq_false_iff_eq,bne_eq_false_iff_eq]at h3;rcases h3 with h3|h3<;>rw[h3]<;>rfl
 rw[e];exact q2
theorem value_took{s:Rs}(h:(valueS s).1.fails=false):Took s (valueS s).1 (Val.enc (valueS s).2):=by
 obtain⟨h1,h2⟩:=(fails_iff _).1 h;have h1':(s.bad||(Val.readValue s.r).2.1 !=0)=false:=h1;rw[Yq,bne_eq_false_iff_eq]at h1';obtain⟨q1,q2,q3⟩:=Val.readValue_back h1'.2;exact⟨(fails_iff _).2 ⟨h1'.1,q1⟩,q3⟩
theorem words_took:∀(c:Nat) (s:Rs) (l:List (List UInt8)),(wordsS c s l).1.fails=false->∃l',(wordsS c s l).2=l++l'/\l'.length=c/\Took s (wordsS c s l).1 (wordsE l')
 |0,s,l,h=>⟨[],by simp[wordsS],rfl,h,rfl⟩
 |c+1,s,l,h=>by
  unfold wordsS at h⊢;obtain⟨l',h1,h2,h3⟩:=words_took c _ _ h;exact⟨(strS s).2::l',by rw[h1];simp,by simp[h2],(str_took h3.1).trans h3⟩
theorem inst_took{ver:Int}{s:Rs}(h:(instS ver s).1.fails=false):Took s (instS ver s).1 (instE ver (instS ver s).2):=by
 unfold instS at h⊢;dsimp only at h⊢;obtain⟨ws,w1,w2,w3⟩:=words_took _ _ _ h;have k:=cnt_took w3.1;have f:Took (flagS (numS (valueS (strS (strS (strS (strS s).1).1).1).1).1).1).1 (if ver=2 then flagS (flagS (numS (valueS (strS (strS (strS (strS s).1).1).1).1).1).1).1 else((flagS (numS (valueS (strS (strS (strS (strS s).1).1).1).1).1).1).1,false)).1 (if ver=2 then flagE (if ver=2 then flagS (flagS (numS (valueS (strS (strS (strS (strS s).1).1).1).1).1).1).1 else((flagS (numS (valueS (strS (strS (strS (strS s).1).1).1).1).1).1).1,false)).2 else[]):=by
  have:=k.1;by_cases hv:ver=2
  ·simp only[if_pos hv]at this⊢;exact flag_took this
  ·simp only[if_neg hv]at this⊢;exact⟨this,rfl⟩
 have t:=flag_took f.1;have n:=num_took t.1;have v:=value_took n.1;have d:=str_took v.1;have c:=str_took d.1;have b:=str_took c.1;have a:=str_took b.1;have all:=((((((((a.trans b).trans c).trans d).trans v).trans n).trans t).trans f).trans k).trans w3;unfold instE;dsimp only;rw[ZA]at w1;rw[w1,w2];exact all
theorem pend_took{s:Rs}(h:(pendS s).1.fails=false):Took s (pendS s).1 (pendE (pendS s).2):=by
 unfold pendS at h⊢;dsimp only at h⊢;have c:=str_took h;have b:=str_took c.1;have a:=str_took b.1;exact(a.trans b).trans c
theorem out_took{s:Rs}(h:(outS s).1.fails=false):Took s (outS s).1 (outE (outS s).2):=by
 unfold outS at h⊢;dsimp only at h⊢;have c:=flag_took h;have b:=value_took c.1;have a:=str_took b.1;exact(a.trans b).trans c
theorem insts_took{ver:Int}:∀(c:Nat) (s:Rs) (l:List Inst),(instsS ver c s l).1.fails=false->∃l',(instsS ver c s l).2=(l++l',true)/\l'.length=c/\Took s (instsS ver c s l).1 (l'.flatMap (instE ver))
 |0,s,l,h=>⟨[],by simp[instsS],rfl,h,rfl⟩
 |c+1,s,l,h=>by
  unfold instsS at h⊢;by_cases hf:s.fails=true
  ·rw[if_pos hf]at h;rw[hf]at h;cases h
  ·rw[if_neg hf]at h⊢;obtain⟨l',h1,h2,h3⟩:=insts_took c _ _ h;exact⟨(instS ver s).2::l',by rw[h1];simp,by simp[h2],by rw[YJ];exact(inst_took h3.1).trans h3⟩
theorem pends_took:∀(c:Nat) (s:Rs) (l:List Pend),(pendsS c s l).1.fails=false->∃l',(pendsS c s l).2=l++l'/\l'.length=c/\Took s (pendsS c s l).1 (l'.flatMap pendE)
 |0,s,l,h=>⟨[],by simp[pendsS],rfl,h,rfl⟩
 |c+1,s,l,h=>by
  unfold pendsS at h⊢;obtain⟨l',h1,h2,h3⟩:=pends_took c _ _ h;exact⟨(pendS s).2::l',by rw[h1];simp,by simp[h2],by rw[YJ];exact(pend_took h3.1).trans h3⟩
theorem outs_took:∀(c:Nat) (s:Rs) (l:List Outp),(outsS c s l).1.fails=false->∃l',(outsS c s l).2=(l++l',true)/\l'.length=c/\Took s (outsS c s l).1 (l'.flatMap outE)
 |0,s,l,h=>⟨[],by simp[outsS],rfl,h,rfl⟩
 |c+1,s,l,h=>by
  unfold outsS at h⊢;by_cases hf:s.fails=true
  ·rw[if_pos hf]at h;rw[hf]at h;cases h
  ·rw[if_neg hf]at h⊢;obtain⟨l',h1,h2,h3⟩:=outs_took c _ _ h;exact⟨(outS s).2::l',by rw[h1];simp,by simp[h2],by rw[YJ];exact(out_took h3.1).trans h3⟩
def restE(ver:Int)(s:St):List UInt8:=
 Wire.strE s.lin++Wire.num s.ser++Wire.num s.insts.length++s.insts.flatMap (instE ver)++(if ver=2 then Wire.num s.pends.length++s.pends.flatMap pendE else[])++Wire.num s.outs.length++s.outs.flatMap outE
theorem stE_rest(ver:Int)(s:St):stE ver s=magic++Wire.num ver++restE ver s:=by
 unfold stE restE;simp only[Zh]
theorem state_took{ver:Int}{s:Rs}(h:(stateS ver s).1.fails=false):Took s (stateS ver s).1 (restE ver (stateS ver s).2):=by
 unfold stateS at h⊢;dsimp only at h⊢;obtain⟨A,hA⟩:=Ex (strS s);obtain⟨N,hN⟩:=Ex (numS A.1);obtain⟨CI,hCI⟩:=Ex (cntS N.1);obtain⟨I,hI⟩:=Ex (instsS ver CI.2 CI.1 []);rw[hA,hN,hCI,hI]at h⊢;have front:I.1.fails=false->I.2.2=true/\Took s I.1 (Wire.strE A.2++Wire.num N.2++Wire.num I.2.1.length++I.2.1.flatMap (instE ver)):=fun hi=>by
  obtain⟨is,i1,i2,i3⟩:=insts_took CI.2 CI.1 [] (by rw[hI];exact hi);rw[hI,ZA]at i1;rw[hI]at i3;have c:=cnt_took (s:=N.1) (by rw[hCI];exact i3.1);have n:=num_took (s:=A.1) (by rw[hN];exact c.1);have a:=str_took (s:=s) (by rw[hA];exact n.1);rw[hCI]at c;rw[hN]at n;rw[hA]at a;rw[i1];refine⟨rfl,?_⟩;dsimp only;rw[i2];exact((a.trans n).trans c).trans i3
 cases hb:I.2.2
 ·rw[hb,if_pos rfl]at h;have:=(front h).1;rw[hb]at this;cases this
 ·rw[hb,if_neg (by decide)]at h;rw[if_neg (by decide)];dsimp only at h⊢;obtain⟨P,hP⟩:=Ex ((if ver=2 then pendsS (cntS I.1).2 (cntS I.1).1 []else(I.1,[])));rw[hP]at h⊢;obtain⟨os,o1,o2,o3⟩:=outs_took _ _ _ h;rw[ZA]at o1;have c:=cnt_took (s:=P.1) o3.1;have mid:Took I.1 P.1 (if ver=2 then Wire.num P.2.length++P.2.flatMap pendE else[]):=by
   by_cases hv:ver=2
   ·rw[if_pos hv]at hP⊢;obtain⟨ps,p1,p2,p3⟩:=pends_took (cntS I.1).2 (cntS I.1).1 [] (by rw[hP];exact c.1);rw[hP,ZA]at p1;rw[hP]at p3;rw[p1,p2];exact(cnt_took p3.1).trans p3
   ·rw[if_neg hv]at hP⊢;subst hP;exact⟨c.1,rfl⟩
  obtain⟨_,fr⟩:=front mid.1;have all:=((fr.trans mid).trans c).trans o3;unfold restE;dsimp only;rw[o1];dsimp only;rw[o2];exact all
end Sf
end
end Go.Proofs.YtnffmgmidghfhaaGreatDoor
