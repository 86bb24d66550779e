/- Part of what the proof needs. -/
import Derived.Test.YtnffmgmidghfhaaGreatDoorMFrWorkspaceNewsL
import Derived.Test.YtnffmgmidghfhaaGreatDoorMFrWorkspaceNewsQ
set_option maxHeartbeats 4000000
set_option maxRecDepth 100000
set_option linter.all false
namespace Go.Proofs.YtnffmgmidghfhaaGreatDoor
section
open Go.RowKit
namespace AX
def bzu:AX.AFn:=⟨9,aS [aR 2 (.mv (.c (.bool false)))] (aS [aM 3 0,aR 4 (.bin .neq (.t 3) (.c (.str []))),aM 5 4,aG 6 (.mv (.t 0)) 5 true,aG 7 (.call 48 [.t 6]) 5 true,aR 8 (.pick (.t 5) (.t 7) (.c (.bool false))),aM 2 8] (.ret)),[.t 2]⟩
theorem cxp:AX.compFn Tryz.prog 32=some bzu:=by kernel_rfl
def byl:AX.AFn:=⟨12,aS [aR 2 (.mv (.c (.bool false)))] (aS [aM 3 0,aR 4 (.eq 4 [] true (.t 3) (.c (.nilp))),aM 5 4,aG 6 (.mv (.t 0)) 5 true,aG 7 (.nilck (.t 6)) 5 true,aG 8 (.faddr 3 (.t 7)) 5 true,aG 9 (.load false 1 (.t 8)) 5 true,aG 10 (.eq 3 [] true (.t 9) (.c (.nilm))) 5 true,aR 11 (.pick (.t 5) (.t 10) (.c (.bool false))),aM 2 11] (.ret)),[.t 2]⟩
theorem cy6:AX.compFn Tryz.prog 34=some byl:=by kernel_rfl
def bjm:AX.AFn:=⟨18,aS [aR 4 (.mv (.c (.bool false)))] (aS [aM 5 0,aR 6 (.nilck (.t 5)),aF 7 4 6,aL 8 7,aR 9 (.bin .neq (.t 8) (.c (.str []))),aM 10 9,aG 11 (.mv (.t 0)) 10 true,aG 12 (.nilck (.t 11)) 10 true,aG 13 (.faddr 4 (.t 12)) 10 true,aG 14 (.load false 1 (.t 13)) 10 true,aG 15 (.mv (.t 1)) 10 true,aG 16 (.bin .eql (.t 14) (.t 15)) 10 true,aR 17 (.pick (.t 10) (.t 16) (.c (.bool false))),aM 4 17] (.ret)),[.t 4]⟩
theorem h_holds:AX.compFn Tryz.prog 47=some bjm:=by kernel_rfl
def bjn:AX.AFn:=⟨42,aS [aR 6 (.mv (aI 0))] (.seq (aS [aM 7 0,aR 8 (.call 34 [.t 7]),aR 9 (.un .not (.t 8))] (.cond (.t 9) (aS [aR 6 (.mv (aI 38))] (.ret)) (.skip))) (.seq (aS [aM 10 1,aR 11 (.call 32 [.t 10]),aR 12 (.un .not (.t 11)),aM 13 12,aG 14 (.mv (.t 2)) 13 false,aG 15 (.bin .lss (.t 14) (aI 1)) 13 false,aR 16 (.pick (.t 13) (.c (.bool true)) (.t 15)),aM 17 16,aG 18 (.mv (.t 2)) 17 false,aG 19 (.bin .gtr (.t 18) (aI 1099511627776)) 17 false,aR 20 (.pick (.t 17) (.c (.bool true)) (.t 19))] (.cond (.t 20) (aS [aR 6 (.mv (aI 1))] (.ret)) (.skip))) (.seq (aS [aM 21 0,aR 22 (.nilck (.t 21)),aF 23 4 22,aL 24 23,aR 25 (.bin .neq (.t 24) (.c (.str []))),aM 26 25,aG 27 (.mv (.t 0)) 26 true,aG 28 (.nilck (.t 27)) 26 true,aG 29 (.faddr 4 (.t 28)) 26 true,aG 30 (.load false 1 (.t 29)) 26 true,aG 31 (.mv (.t 1)) 26 true,aG 32 (.bin .neq (.t 30) (.t 31)) 26 true,aR 33 (.pick (.t 26) (.t 32) (.c (.bool false)))] (.cond (.t 33) (aS [aR 6 (.mv (aI 24))] (.ret)) (.skip))) (aS [aM 34 0,aM 35 0,aM 36 1,aM 37 2,aR 38 (.nilck (.t 34)),aF 39 4 38,aU (.store 1 (.t 39) (.t 36)),aR 40 (.nilck (.t 35)),aF 41 5 40,aU (.store 1 (.t 41) (.t 37))] (aS [aR 6 (.mv (aI 0))] (.ret)))))),[.t 6]⟩
theorem cw8:AX.compFn Tryz.prog 27=some bjn:=by kernel_rfl
def av6:AX.AFn:=⟨18,aS [aR 4 (.mv (aI 0))] (.seq (aS [aM 5 0,aR 6 (.call 34 [.t 5]),aR 7 (.un .not (.t 6))] (.cond (.t 7) (aS [aR 4 (.mv (aI 38))] (.ret)) (.skip))) (.seq (aS [aM 8 0,aM 9 1,aR 10 (.call 47 [.t 8,.t 9]),aR 11 (.un .not (.t 10))] (.cond (.t 11) (aS [aR 4 (.mv (aI 25))] (.ret)) (.skip))) (aS [aM 12 0,aM 13 0,aR 14 (.nilck (.t 12)),aF 15 4 14,aU (.store 1 (.t 15) (.c (.str []))),aR 16 (.nilck (.t 13)),aF 17 5 16,aU (.store 1 (.t 17) (aI 0))] (aS [aR 4 (.mv (aI 0))] (.ret))))),[.t 4]⟩
theorem bys:AX.compFn Tryz.prog 28=some av6:=by kernel_rfl
def ayf:AX.AFn:=⟨15,aS [aR 2 (.mv (.c (.str []))),aR 3 (.mv (aI 0))] (.seq (aS [aM 4 0,aR 5 (.call 34 [.t 4]),aR 6 (.un .not (.t 5))] (.cond (.t 6) (aS [aR 2 (.mv (.c (.str []))),aR 3 (.mv (aI 0))] (.ret)) (.skip))) (.seq (.reg true [aM 7 0,⟨some 8,.nilck (.t 7),none,[0]⟩,⟨some 9,.faddr 4 (.t 8),none,[1]⟩,⟨some 10,.load false 1 (.t 9),none,[2]⟩,aM 11 0,⟨some 12,.nilck (.t 11),none,[4]⟩,⟨some 13,.faddr 5 (.t 12),none,[5]⟩,⟨some 14,.load false 1 (.t 13),none,[6]⟩,⟨some 2,.mv (.t 10),none,[3,0,1,2,3]⟩,⟨some 3,.mv (.t 14),none,[7,8,0,1,2,3,4,5,6,7,8]⟩]) (.ret))),[.t 2,.t 3]⟩
theorem cqf:AX.compFn Tryz.prog 25=some ayf:=by kernel_rfl
theorem bzn(s:List UInt8)(hs:s.length<=2000000)(h:Hp):AT 32 [.str s] h (.bool (Sto.txt s)):=by
 refine pcall ?_ rfl (by simp[A.pure,A.data]) h;refine aza mixedT cxp (by simp[bzu]) ?_;dsimp only[bzu];unfold Sto.txt;rcases azr (s != [])with h1|h1
 ·refine go0 h1 ?_;refine gc0 h1 ?_;refine(bx6 s hs _).mono ?_;rintro v h1' ⟨rfl,rfl⟩;refine go0 h1 ?_;exact⟨_,le_refl _,by rw[azq,h1];rfl⟩
 ·refine go0 h1 ?_;exact⟨_,le_refl _,by rw[azq,h1];rfl⟩
section
variable (s:Sto) (l:List Blk) (t:List (TypeId×Nat×Nat))
theorem awu:AT 34 [.ptr 1 0] ⟨s.M::s.B::l,t⟩ (.bool true):=by
 refine liftS (s':=s) ?_ rfl rfl l t;refine aza mixedT cy6 (by simp[byl]) ?_;dsimp only[byl];unfold Sto.B;refine azb ti ?_;exact⟨_,le_refl _,rfl,rfl,rfl⟩
theorem byf(who:List UInt8):AT 47 [.ptr 1 0,.str who] ⟨s.M::s.B::l,t⟩ (.bool (s.holds who)):=by
 refine liftS (s':=s) ?_ rfl rfl l t;refine aza mixedT h_holds (by simp[bjm]) ?_;dsimp only[bjm];unfold Sto.B Sto.holds;rcases azr (s.own != [])with h1|h1
 ·refine azb h1 ?_;exact⟨_,le_refl _,by rw[h1];rfl,rfl,rfl⟩
 ·refine azb h1 ?_;exact⟨_,le_refl _,by rw[h1];rfl,rfl,rfl⟩
theorem cjw:AT 25 [.ptr 1 0] ⟨s.M::s.B::l,t⟩ (.tup [.str s.own,.int .i64 s.left]):=by
 refine liftS (s':=s) ?_ rfl rfl l t;refine aza mixedT cqf (by simp[ayf]) ?_;dsimp only[ayf];have hm:=awu s;unfold Sto.B at hm⊢;refine azb ti ?_;refine use (hm _ _) ?_;refine azb ti ?_;exact⟨_,le_refl _,rfl,rfl,rfl⟩
theorem dzz(who:List UInt8)(hw:who.length<=2000000)(n:Int):AC 27 [.ptr 1 0,.str who,.int .i64 n] ⟨s.M::s.B::l,t⟩ fun r h'=>r=.int .i64 (s.lock who n).2/\h'=⟨(s.lock who n).1.M::(s.lock who n).1.B::l,t⟩:=by
 refine liftS (s':=(s.lock who n).1) ?_ rfl rfl l t;refine aza mixedT cw8 (by simp[bjn]) ?_;dsimp only[bjn];obtain⟨q,hq⟩:=Ex (s.lock who n);rw[hq];unfold Sto.lock at hq;have hm:=awu s;unfold Sto.B at hm⊢;refine azb ti ?_;refine use (hm _ _) ?_;refine azb ti ?_;refine use (bzn who hw _) ?_;cases hT:Sto.txt who
 ·rw[hT,if_pos (by simp)]at hq;subst hq;refine azb ti ?_;exact⟨_,le_refl _,rfl,rfl,rfl⟩
 by_cases h1:n<1
 ·rw[hT,if_pos (by simp;omega)]at hq;subst hq;refine azb h1 ?_;exact⟨_,le_refl _,rfl,rfl,rfl⟩
 by_cases h2:n>1099511627776
 ·rw[hT,if_pos (by simp;omega)]at hq;subst hq;refine azb (ai h1 h2) ?_;exact⟨_,le_refl _,rfl,rfl,rfl⟩
 rw[hT,if_neg (by simp;omega)]at hq;rcases azr (s.own != [])with h3|h3
 ·rcases azr (s.own !=who)with h4|h4
  ·rw[h3,h4,if_pos (by decide)]at hq;subst hq;refine azb (ai h1 (ai h2 (ai h3 h4))) ?_;exact⟨_,le_refl _,rfl,rfl,rfl⟩
  ·rw[h3,h4,if_neg (by decide)]at hq;subst hq;refine azb (ai h1 (ai h2 (ai h3 h4))) ?_;exact⟨_,le_refl _,rfl,rfl,rfl⟩
 ·rw[h3,if_neg (by simp)]at hq;subst hq;refine azb (ai h1 (ai h2 h3)) ?_;exact⟨_,le_refl _,rfl,rfl,rfl⟩
theorem cx8(who:List UInt8):AC 28 [.ptr 1 0,.str who] ⟨s.M::s.B::l,t⟩ fun r h'=>r=.int .i64 (s.unlock who).2/\h'=⟨(s.unlock who).1.M::(s.unlock who).1.B::l,t⟩:=by
 refine liftS (s':=(s.unlock who).1) ?_ rfl rfl l t;refine aza mixedT bys (by simp[av6]) ?_;dsimp only[av6];obtain⟨q,hq⟩:=Ex (s.unlock who);rw[hq];unfold Sto.unlock at hq;have hm:=awu s;have hh:=fun l t=>byf s l t who
 unfold Sto.B at hm hh⊢;refine azb ti ?_;refine use (hm _ _) ?_;refine azb ti ?_;refine use (hh _ _) ?_;cases hT:s.holds who
 ·rw[hT,if_pos (by simp)]at hq;subst hq;refine azb ti ?_;exact⟨_,le_refl _,rfl,rfl,rfl⟩
 ·rw[hT,if_neg (by decide)]at hq;subst hq;refine azb ti ?_;exact⟨_,le_refl _,rfl,rfl,rfl⟩
end
end AX
end
section
open Go.RowKit
namespace Str
theorem one_width(l:List UInt8)(hl:l≠[])(h:(one l).2.2=0):(one l).2.1<=l.length:=by
 have hp:=Yn.2 hl;by_cases h92:l.getD 0 0=92
 ·obtain⟨⟨c,n,e⟩,he⟩:=Ex (escp (l.drop 1));have h1:=one_esc l h92 c n e he;rw[h1]at h⊢;by_cases h0:e=0
  ·rw[if_neg (by simp[h0])];have:=escp_len (l.drop 1) (by rw[he];exact h0);rw[he,Zu]at this;dsimp only at this⊢;omega
  ·rw[if_pos h0]at h;exact absurd h h0
 ·obtain⟨⟨c,n⟩,hd⟩:=Ex (Lib.decodeL l);have hc:c≠92:=by
   rcases dec_cases l with⟨q1,q2⟩|⟨q1,q2⟩
   ·rw[hd]at q2;injection q2 with q2 q3;intro e;apply h92;rw[<-YC];have:(l.getD 0 0).toNat=92:=by omega
    simpa using this
   ·rw[hd]at q2;dsimp only at q2;omega
  by_cases hbad:(c=65533/\n=1)\/c<32\/c=127
  ·rw[one_bad l c n hd hc hbad]at h;simp at h
  ·rw[one_ok l hl c n hd hc hbad];have:=Lib.decodeL_le l hl;rw[hd]at this;exact this
theorem unq_width:∀(f:Nat) (l acc:List UInt8) (i N:Nat),i+l.length=N->(unq f l acc i).2.2=0->(unq f l acc i).2.1<=N
 |0,l,acc,i,N,hN,h=>by
  unfold unq at h⊢;simp at h⊢
 |f+1,l,acc,i,N,hN,h=>by
  unfold unq at h⊢;split
  ·next h1=>rw[if_pos h1]at h;simp at h
  ·next h1=>
   rw[if_neg h1]at h;have hp:=Yn.2 h1;split
   ·next h2=>
    rw[if_pos h2]at h;split
    ·exact Z0 _
    ·dsimp only;omega
   ·next h2=>
    rw[if_neg h2]at h;split
    ·exact Z0 _
    ·next h3=>
     rw[if_neg h3]at h;have:=one_width l h1 (by simpa using h3);exact unq_width f _ _ _ N (by rw[Zu];omega) h
theorem unquote_width(l:List UInt8)(h:(unquote l).2.2=0):(unquote l).2.1<=l.length:=by
 unfold unquote at h⊢;split
 ·exact Z0 _
 ·next h1=>
  rw[if_neg h1]at h;split
  ·exact Z0 _
  ·next h2=>
   rw[if_neg h2]at h;have hp:=Yn.2 h1;exact unq_width _ _ _ _ l.length (by rw[Zu];omega) h
end Str
namespace AX
def byq:AX.AFn:=⟨101,aS [aR 2 (.alloc 170 [.int .i64 0,.int .i64 0,.str []])] (.seq (aS [aM 10 0,aR 11 (.nilck (.t 10)),aF 12 1 11,aL 13 12,aM 14 13,aG 15 (.mv (.t 0)) 14 false,aG 16 (.call 135 [.t 15,.c (.str [91])]) 14 false,aG 17 (.un .not (.t 16)) 14 false,aR 18 (.pick (.t 14) (.c (.bool true)) (.t 17))] (.cond (.t 18) (aS [aR 19 (.build [.int .i64 0,.int .i64 0,.str []] []),aU (.store 3 (.t 2) (.t 19))] (.ret)) (.skip))) (aS [aR 3 (.alloc 170 [.int .i64 0,.int .i64 0,.str []])] (.seq (aS [aM 20 0,aR 21 (.nilck (.t 20)),aF 22 0 21,aL 23 22,aR 24 (.call 75 [.t 23,.c (.str [34])])] (.cond (.t 24) (aS [aM 26 0,aR 27 (.nilck (.t 26)),aF 28 0 27,aL 29 28,aR 30 (.call 151 [.t 29]),aM 25 30,aE 31 25 0,aE 32 25 1,aE 33 25 2,aM 4 31,aM 5 32,aM 6 33] (.seq (.seq (.reg true [aM 34 6,⟨some 35,.bin .neq (.t 34) (aI 0),none,[0]⟩,⟨some 36,.mv (.t 35),none,[1]⟩,⟨some 37,.mv (.t 4),some (36,false),[2]⟩,⟨some 38,.call 152 [.t 37],some (36,false),[3,2,2]⟩,⟨some 39,.mv (.t 0),some (36,false),[2]⟩,⟨some 40,.nilck (.t 39),some (36,false),[5,2]⟩,⟨some 41,.faddr 0 (.t 40),some (36,false),[6,2]⟩,⟨some 42,.load false 1 (.t 41),some (36,false),[7,2]⟩,⟨some 43,.mv (.t 5),some (36,false),[2]⟩,⟨some 44,.ssl (.t 42) none (some (.t 43)),some (36,false),[8,9,2]⟩,⟨some 45,.bin .neq (.t 38) (.t 44),some (36,false),[4,10,2]⟩,⟨some 46,.pick (.t 36) (.c (.bool true)) (.t 45),none,[2,11]⟩]) (.cond (.t 46) (aS [aM 47 0,aR 48 (.nilck (.t 47)),aF 49 1 48,aU (.store 1 (.t 49) (.c (.bool true)))] (aS [aR 50 (.load true 3 (.t 3)),aU (.store 3 (.t 2) (.t 50))] (.ret))) (.skip))) (aS [aM 51 4,aR 52 (.build [.int .i64 0,.int .i64 0,.str []] [(0,1,aI 2),(2,1,.t 51)]),aU (.store 3 (.t 3) (.t 52))] (.reg false [aM 53 0,aM 54 0,aR 55 (.nilck (.t 54)),aF 56 0 55,aL 57 56,aM 58 5,aR 59 (.ssl (.t 57) (some (.t 58)) none),aR 60 (.nilck (.t 53)),aF 61 0 60,aU (.store 1 (.t 61) (.t 59))])))) (aS [aM 62 0,aR 63 (.nilck (.t 62)),aF 64 0 63,aL 65 64,aR 66 (.call 153 [.t 65,.c (.int .u8 93)]),aR 67 (.mm true (.t 66) (aI 0)),aM 7 67] (aS [aM 69 0,aR 70 (.nilck (.t 69)),aF 71 0 70,aL 72 71,aM 73 7,aR 74 (.ssl (.t 72) none (some (.t 73))),aR 75 (.call 131 [.t 74]),aM 68 75,aE 76 68 0,aE 77 68 1,aM 8 76,aM 9 77] (aS [aM 78 0,aM 79 9,aR 80 (.bin .neq (.t 79) (aI 0)),aM 81 80,aG 82 (.mv (.t 8)) 81 false,aG 83 (.bin .lss (.t 82) (aI 0)) 81 false,aR 84 (.pick (.t 81) (.c (.bool true)) (.t 83)),aR 85 (.nilck (.t 78)),aF 86 1 85,aU (.store 1 (.t 86) (.t 84))] (aS [aM 87 8,aR 88 (.build [.int .i64 0,.int .i64 0,.str []] [(0,1,aI 1),(1,1,.t 87)]),aU (.store 3 (.t 3) (.t 88))] (.reg false [aM 89 0,aM 90 0,aR 91 (.nilck (.t 90)),aF 92 0 91,aL 93 92,aM 94 7,aR 95 (.ssl (.t 93) (some (.t 94)) none),aR 96 (.nilck (.t 89)),aF 97 0 96,aU (.store 1 (.t 97) (.t 95))]))))))) (aS [aM 98 0,aR 99 (.call 137 [.t 98,.c (.str [93])])] (aS [aR 100 (.load true 3 (.t 3)),aU (.store 3 (.t 2) (.t 100))] (.ret)))))),[.c 2 true 3]⟩
theorem cyj:AX.compFn Tryz.prog 139=some byq:=by kernel_rfl
def bx9:AX.AFn:=⟨11,aS [aR 2 (.alloc 199 [.str [],.int .i64 0,.int .i64 0,.str []])] (aS [aM 4 0,aR 5 (.call 138 [.t 4]),aR 6 (.build [.str [],.int .i64 0,.int .i64 0,.str []] [(0,1,.t 5)]),aR 3 (.alloc 199 [.str [],.int .i64 0,.int .i64 0,.str []]),aU (.store 4 (.t 3) (.t 6))] (aS [aM 7 0,aR 8 (.call 139 [.t 7]),aF 9 1 3,aU (.store 3 (.t 9) (.t 8))] (aS [aR 10 (.load true 4 (.t 3)),aU (.store 4 (.t 2) (.t 10))] (.ret)))),[.c 2 true 4]⟩
theorem cwg:AX.compFn Tryz.prog 136=some bx9:=by kernel_rfl
theorem bwd{w:World}(g:GT w):Glob w:=⟨g.tabs,g.tz⟩
theorem czy(s:List UInt8)(hs:s.length<=2000000)(h:Hp):AT 151 [.str s] h (.tup [.str (Str.unquote s).1,.int .i64 (Str.unquote s).2.1,.int .i64 (Str.unquote s).2.2]):=
 azs (ajp aqy) (fun w hg=>bjc ⟨s.toArray⟩ w (by rw[size_mk];exact hs) (bwd hg)) (fun C=>rep_tup.2 ⟨_,rfl,repL_cons.2 ⟨_,_,rfl,rep_str.2 rfl,repL_cons.2 ⟨_,_,rfl,rep_int.2 rfl,repL_cons.2 ⟨_,_,rfl,rep_int.2 rfl,azm.2 rfl⟩⟩⟩⟩) h
theorem cyh(s:List UInt8)(hs:s.length<=2000000)(h:Hp):AT 152 [.str s] h (.str (Str.quote s)):=
 azs (ajp aqy) (fun w hg=>czd ⟨s.toArray⟩ w (by rw[size_mk];exact hs) (bwd hg)) (fun C=>rep_str.2 rfl) h
theorem bk5(s p:List UInt8):(decide (p.length<=s.length)&&s.take p.length==p)=Adr.begins s p:=by
 unfold Adr.begins;rw[YZ,Zam,List.prefix_iff_eq_take,Zg,ZE,Z3];constructor
 ·rintro⟨h1,h2⟩;exact h2.symm
 ·intro h2;exact⟨by have:=congrArg List.length h2;rw[Zm]at this;omega,h2.symm⟩
theorem dzi(r:Adr.Rd)(hl:r.rest.length<=2000000){h:Hp}{i:Nat}(hb:h.b[i]?=some (adB r)):
  AC 139 [.ptr i 0] h fun v h'=>v=Adr.K.A (Adr.keyP r).1/\h'=⟨h.b.set i (adB (Adr.keyP r).2),h.t⟩:=by
 have key:AC 139 [.ptr 0 0] ⟨[adB r],[]⟩ fun v h'=>∃b',h'.b[0]?=some b'/\v=Adr.K.A (Adr.keyP r).1/\b'=adB (Adr.keyP r).2:=by
  refine aza mixedT cyj (by simp[byq]) ?_;dsimp only[byq];have hh:=fun h hb=>cxr [91] r (h:=h) (i:=0) hb
  obtain⟨Z,hZ⟩:=Ex (Adr.keyP r);rw[hZ];unfold Adr.keyP at hZ;unfold Adr.hasP at hh;unfold adB at hh⊢;obtain⟨rest,bad⟩:=r;dsimp only at hl hh hZ;cases bad;rotate_left
  ·rw[if_pos rfl]at hZ;subst hZ;refine azb ti ?_;exact⟨_,le_refl _,_,rfl,rfl,rfl⟩
  rw[if_neg (by decide)]at hZ;refine azb ti ?_;refine use (hh _ rfl) ?_;cases hB:Adr.begins rest [91]
  ·rw[hB,if_pos rfl]at hZ;subst hZ;refine azb ti ?_;exact⟨_,le_refl _,_,rfl,rfl,rfl⟩
  rw[hB,if_neg (by decide)]at hZ;obtain⟨t,ht⟩:=Ex (rest.drop 1);have ht1:rest.drop [91].length=t:=ht;have htl:t.length<=2000000:=by rw[<-ht,Zu];omega
  rw[ht]at hZ;have hp:=fun h=>ax2 t [34] h
  rw[bk5]at hp;have hu:=fun h=>czy t htl h
  have hsk:=fun(q:Adr.Rd) h hb=>czm [93] q (h:=h) (i:=0) hb
  unfold adB at hsk;refine azb (ai ht1 ht) ?_;refine use (hp _) ?_;cases hQ:Adr.begins t [34]
  ·rw[hQ,if_neg (by decide)]at hZ;refine azb ti ?_;refine use (bxt t _) ?_;have hk:=Adr.indexByte_key t;obtain⟨n,hn,hnle,hix⟩:∃n:Nat,(if t.all (· != 93)then 0 else(t.takeWhile (· != 93)).length)=n/\n<=t.length/\(Lib.indexByte t 93=(n:Int)\/(Lib.indexByte t 93=-1/\n=0)):=by
    rcases hk with⟨k1,k2⟩|⟨k1,k2,k3⟩
    ·exact⟨0,by rw[if_pos k1],Z0 _,.inr ⟨k2,rfl⟩⟩
    ·exact⟨_,by rw[k1,if_neg (by decide)],k3,.inl k2⟩
   rw[hn]at hZ;have hmax:(if(0:Int)>Lib.indexByte t 93 then 0 else Lib.indexByte t 93)=(n:Int):=by
    rcases hix with e|⟨e,e2⟩
    ·rw[e,if_neg (by omega)]
    ·rw[e,e2];rfl
   have htk:(t.take n).length<=2000000:=by rw[Zm];omega
   have hnp:=fun h=>a_numParse (t.take n) htk h
   have l0:(0:Int)<=(n:Int):=by omega
   have l1:(n:Int)<=(t.length:Int):=by omega
   obtain⟨⟨x,e⟩,hx⟩:=Ex (Num.parse (t.take n));rw[hx]at hnp hZ;dsimp only at hnp hZ;refine azb (ai hmax (ai l0 l1)) ?_;refine use (hnp _) ?_;have hbad:=Ex ((e !=0||decide (x<0)));obtain⟨b,hb⟩:=hbad;rw[hb]at hZ;subst hZ;by_cases he:e=0
   ·have e1:(e !=0)=false:=by simp[he]
    rw[e1,YA]at hb;refine azb (ai e1 (ai hb (ai l0 l1))) ?_;refine use (hsk ⟨t.drop n,b⟩ _ rfl) ?_;refine azb ti ?_;exact⟨_,le_refl _,_,rfl,rfl,rfl⟩
   ·have e1:(e !=0)=true:=by simp[he]
    rw[e1,Y1]at hb;subst hb;refine azb (ai e1 (ai l0 l1)) ?_;refine use (hsk ⟨t.drop n,true⟩ _ rfl) ?_;refine azb ti ?_;exact⟨_,le_refl _,_,rfl,rfl,rfl⟩
  ·rw[hQ,if_pos rfl]at hZ;refine azb ti ?_;refine use (hu _) ?_;have hw:=Str.unquote_width t;have hv:=Str.unquote_valid t;obtain⟨⟨us,un,ue⟩,hue⟩:=Ex (Str.unquote t);rw[hue]at hZ hw hv⊢;dsimp only at hZ hw hv⊢;by_cases he:ue=0
   rotate_left
   ·have e1:(ue !=0)=true:=by simp[he]
    rw[if_pos (.inl he)]at hZ;subst hZ;refine azb e1 ?_;exact⟨_,le_refl _,_,rfl,rfl,rfl⟩
   have e1:(ue !=0)=false:=by simp[he]
   have hul:us.length<=2000000:=by
    have:=hv he;unfold Str.valid at this;rw[Zg,ZE]at this;omega
   have l1:(un:Int)<=(t.length:Int):=by have:=hw he;omega
   have l0:(0:Int)<=(un:Int):=by omega
   refine azb (ai e1 (ai l0 l1)) ?_;refine use (cyh us hul _) ?_;cases hne:Str.quote us !=t.take un
   ·rw[if_neg (by rintro(h|h);exact h he;rw[bne_eq_false_iff_eq]at hne;exact h hne)]at hZ;subst hZ;refine azb (ai e1 (ai hne (ai l0 l1))) ?_;refine use (hsk ⟨t.drop un,false⟩ _ rfl) ?_;refine azb ti ?_;exact⟨_,le_refl _,_,rfl,rfl,rfl⟩
   ·rw[if_pos (.inr (Y9.1 hne))]at hZ;subst hZ;refine azb (ai e1 (ai hne (ai l0 l1))) ?_;exact⟨_,le_refl _,_,rfl,rfl,rfl⟩
 refine(ACall.lift1 key rfl (aqz r) ?_ hb).mono ?_
 ·rintro v b' ⟨rfl,rfl⟩;exact⟨rfl,aqz _⟩
 ·rintro v h' ⟨b',⟨rfl,rfl⟩,rfl⟩;exact⟨rfl,rfl⟩
end AX
namespace Adr
theorem has_len(p:List UInt8)(r:Rd):(hasP p r).2.rest.length<=r.rest.length:=by
 unfold hasP;split
 ·rw[Zu];omega
 ·exact Ze _
theorem has_less(p:List UInt8)(r:Rd)(h:begins r.rest p=true):(hasP p r).2.rest.length+p.length=r.rest.length:=by
 have:=begins_len h;unfold hasP;rw[if_pos h];dsimp only;rw[Zu];omega
theorem takeW_len{p:UInt8->Bool}(s:List UInt8):(s.takeWhile p).length<=s.length:=List.Sublist.length_le (List.takeWhile_sublist p)
theorem dropW_len{p:UInt8->Bool}(s:List UInt8):(s.dropWhile p).length<=s.length:=List.Sublist.length_le (List.dropWhile_sublist p)
theorem word_len(r:Rd):(wordP r).2.rest.length<=r.rest.length/\(wordP r).1.length<=r.rest.length:=⟨dropW_len _,takeW_len _⟩
theorem skip_len(p:List UInt8)(r:Rd):(skipP p r).rest.length<=r.rest.length:=by
 unfold skipP;split
 ·dsimp only;rw[Zu];omega
 ·exact Ze _
theorem key_len(r:Rd):(keyP r).2.rest.length<=r.rest.length:=by
 unfold keyP;split
 ·exact Ze _
 ·split
  ·exact Ze _
  ·dsimp only;split
   ·split
    ·dsimp only;rw[Zu];omega
    ·refine Zr (skip_len _ _) ?_;dsimp only;rw[Zu,Zu];omega
   ·refine Zr (skip_len _ _) ?_;dsimp only;rw[Zu,Zu];omega
theorem step_len(r:Rd):(stepP r).2.rest.length<=r.rest.length:=Zr (key_len _) (word_len r).1
end Adr
namespace AX
def bzj:AX.AFn:=⟨65,aS [aR 2 (.alloc 172 [.sl 0 .nil [],.bool false,.str [],.str [],.int .i64 0,.int .i64 0,.str []]),aR 3 (.mv (aI 0))] (aS [aM 6 0,aR 7 (.build [.str [],.bool false] [(0,1,.t 6)]),aR 8 (.box 197 (.t 7)),aM 4 8] (aS [aR 5 (.alloc 172 [.sl 0 .nil [],.bool false,.str [],.str [],.int .i64 0,.int .i64 0,.str []])] (.seq (.block 0 (.loop (.seq (aS [aM 9 4,aR 10 (.nilck (.t 9)),aF 11 1 10,aL 12 11,aR 13 (.un .not (.t 12)),aM 14 13,aG 15 (.mv (.t 4)) 14 true,aG 16 (.call 135 [.t 15,.c (.str [109,111,100,117,108,101,46])]) 14 true,aR 17 (.pick (.t 14) (.t 16) (.c (.bool false)))] (.cond (.t 17) (.skip) (.exit 0))) (.block 1 (.seq (.reg true [aF 18 0 5,⟨some 19,.load false 1 (.t 18),none,[0]⟩,aM 20 4,⟨some 21,.call 136 [.t 20],none,[2]⟩,⟨some 22,.mks 4 [.t 21],none,[3]⟩,⟨some 23,.app 199 4 48 (.t 19) (.t 22),none,[1,4,3]⟩,⟨some 24,.faddr 0 (.t 5),none,[0,1,2,3,4,5]⟩,⟨none,.store 1 (.t 24) (.t 23),none,[6,5,5,0,1,2,3,4,5]⟩]) (.reg false [aM 25 4,aR 26 (.call 137 [.t 25,.c (.str [46])])])))))) (aS [aM 27 4,aR 28 (.call 135 [.t 27,.c (.str [100,97,116,97,46])]),aF 29 1 5,aU (.store 1 (.t 29) (.t 28))] (aS [aM 30 4,aR 31 (.call 138 [.t 30]),aF 32 2 5,aU (.store 1 (.t 32) (.t 31))] (aS [aM 33 4,aR 34 (.call 137 [.t 33,.c (.str [46])])] (aS [aM 35 4,aR 36 (.call 138 [.t 35]),aF 37 3 5,aU (.store 1 (.t 37) (.t 36))] (aS [aM 38 4,aR 39 (.call 139 [.t 38]),aF 40 4 5,aU (.store 3 (.t 40) (.t 39))] (.seq (aS [aM 41 4,aR 42 (.nilck (.t 41)),aF 43 1 42,aL 44 43,aM 45 44,aG 46 (.mv (.t 4)) 45 false,aG 47 (.nilck (.t 46)) 45 false,aG 48 (.faddr 0 (.t 47)) 45 false,aG 49 (.load false 1 (.t 48)) 45 false,aG 50 (.bin .neq (.t 49) (.c (.str []))) 45 false,aR 51 (.pick (.t 45) (.c (.bool true)) (.t 50)),aM 52 51,aG 53 (.faddr 2 (.t 5)) 52 false,aG 54 (.load false 1 (.t 53)) 52 false,aG 55 (.call 140 [.t 54]) 52 false,aG 56 (.un .not (.t 55)) 52 false,aR 57 (.pick (.t 52) (.c (.bool true)) (.t 56))] (.cond (.t 57) (aS [aR 58 (.build [.sl 0 .nil [],.bool false,.str [],.str [],.int .i64 0,.int .i64 0,.str []] []),aU (.store 7 (.t 2) (.t 58)),aR 3 (.mv (aI 2))] (.ret)) (.skip))) (.seq (aS [aF 59 0 5,aL 60 59,aR 61 (.len false (.t 60)),aR 62 (.bin .gtr (.t 61) (aI 16))] (.cond (.t 62) (aS [aR 63 (.build [.sl 0 .nil [],.bool false,.str [],.str [],.int .i64 0,.int .i64 0,.str []] []),aU (.store 7 (.t 2) (.t 63)),aR 3 (.mv (aI 4))] (.ret)) (.skip))) (aS [aR 64 (.load true 7 (.t 5)),aU (.store 7 (.t 2) (.t 64)),aR 3 (.mv (aI 0))] (.ret)))))))))))),[.c 2 true 7,.t 3]⟩
theorem cxc:AX.compFn Tryz.prog 118=some bzj:=by kernel_rfl
theorem dzk(r:Adr.Rd)(hl:r.rest.length<=2000000){h:Hp}{i:Nat}(hb:h.b[i]?=some (adB r)):
  AC 136 [.ptr i 0] h fun v h'=>v=.agg (Adr.stepP r).1.cells/\h'=⟨h.b.set i (adB (Adr.stepP r).2),h.t⟩:=by
 have key:AC 136 [.ptr 0 0] ⟨[adB r],[]⟩ fun v h'=>∃b',h'.b[0]?=some b'/\v=.agg (Adr.stepP r).1.cells/\b'=adB (Adr.stepP r).2:=by
  refine aza mixedT cwg (by simp[bx9]) ?_;dsimp only[bx9];have hw:=fun h hb=>bwy r hl (h:=h) (i:=0) hb
  have hk:=fun h hb=>dzi (Adr.wordP r).2 (Zr (Adr.word_len r).1 hl) (h:=h) (i:=0) hb
  have hS:Adr.stepP r=(⟨(Adr.wordP r).1,(Adr.keyP (Adr.wordP r).2).1⟩,(Adr.keyP (Adr.wordP r).2).2):=rfl;rw[hS];obtain⟨⟨w,r1⟩,h1⟩:=Ex (Adr.wordP r);rw[h1]at hw hk⊢;dsimp only at hw hk⊢;obtain⟨⟨⟨kd,kn,ks⟩,r2⟩,h2⟩:=Ex (Adr.keyP r1);rw[h2]at hk⊢;dsimp only[Adr.K.A]at hk⊢;unfold adB at hw hk⊢;refine azb ti ?_;refine use (hw _ rfl) ?_;refine azb ti ?_;refine use (hk _ rfl) ?_;refine azb ti ?_;exact⟨_,le_refl _,_,rfl,rfl,rfl⟩
 refine(ACall.lift1 key rfl (aqz r) ?_ hb).mono ?_
 ·rintro v b' ⟨rfl,rfl⟩;exact⟨rfl,aqz _⟩
 ·rintro v h' ⟨b',⟨rfl,rfl⟩,rfl⟩;exact⟨rfl,rfl⟩
theorem bwk(s:List UInt8)(hs:s.length<=2000000)(h:Hp):AT 118 [.str s] h (.tup [.agg (Adr.parse s).1.cells,.int .i64 (Adr.parse s).2]):=by
 rw[<-Adr.parse_eq];refine pcall ?_ rfl (by simp[A.pure,A.data]) h;refine aza mixedT cxc (by simp[bzj]) ?_;dsimp only[bzj];obtain⟨⟨M,RM⟩,hM⟩:=Ex (Adr.modsP (s.length+1) ⟨s,false⟩ []);obtain⟨F,hF⟩:=Ex (Adr.parseP s);rw[hF];unfold Adr.parseP at hF;rw[hM]at hF;dsimp only at hF;refine azb ti ?_
 refine azh (fun mm ts h=>∃(r:Adr.Rd) (l:List Adr.Step) (W:Nat) (o:Own) (t:List (TypeId×Nat×Nat)),r.rest.length<mm/\mm+l.length=s.length+1/\Adr.modsP mm r l=(M,RM) /\
  h=⟨[.cells 172 [.sl 0 .nil [],.bool false,.str [],.str [],.int .i64 0,.int .i64 0,.str []],.cells 197 [.str r.rest,.bool r.bad],.cells 172 [.sl W o (l.map Adr.Step.cells),.bool false,.str [],.str [],.int .i64 0,.int .i64 0,.str []]],t⟩ /\
  Gs 199 4 0 ⟨[],t⟩ (l.map Adr.Step.cells) (.sl W o (l.map Adr.Step.cells))/\ts 2=.ptr 0 0/\ts 3=.int .i64 0/\ts 4=.ptr 1 0/\ts 5=.ptr 2 0) (s.length+1) ?_ ?_
 ·exact⟨⟨s,false⟩,[],0,.nil,[],by dsimp only;omega,by simp,hM,rfl,.inl ⟨rfl,rfl⟩,by(exact ev0 ti),by(exact ev0 ti),by(exact ev0 ti),by(exact ev0 ti)⟩
 rintro mm ts h ⟨r,l,W,o,t,hrm,hml,hmod,rfl,gX,t2,t3,t4,t5⟩;cases mm with
 |zero=>omega
 |succ f=>
 unfold Adr.modsP at hmod;by_cases hgo:r.bad=false/\Adr.begins r.rest Adr.modW=true
 ·rw[if_pos hgo]at hmod;have hmw:Adr.modW=[109,111,100,117,108,101,46]:=rfl;have cH:=fun h hb=>cxr Adr.modW r (h:=h) (i:=1) hb
  have l1:=Adr.has_less Adr.modW r hgo.2;have hh1:(Adr.hasP Adr.modW r).1=true:=by unfold Adr.hasP;rw[if_pos hgo.2]
  rw[hh1]at cH;have l7:Adr.modW.length=7:=rfl;have hr0:r.bad=false:=hgo.1;obtain⟨r1,hr1⟩:=Ex ((Adr.hasP Adr.modW r).2);rw[hr1]at cH l1 hmod;have cS:=fun h hb=>dzk r1 (by omega) (h:=h) (i:=1) hb
  have l2:=Adr.step_len r1;obtain⟨⟨⟨nm,⟨kd,kn,ks⟩⟩,r2⟩,hr2⟩:=Ex (Adr.stepP r1);rw[hr2]at cS l2 hmod;dsimp only[Adr.Step.cells]at cS l2 hmod;have cK:=fun h hb=>czm [46] r2 (h:=h) (i:=1) hb
  have l3:=Adr.skip_len [46] r2;obtain⟨r3,hr3⟩:=Ex (Adr.skipP [46] r2);rw[hr3]at cK l3 hmod;unfold adB at cH cS cK;rw[hmw]at cH;rw[hr0]at cH;obtain⟨W',o',t',hX,gX',_⟩:=gX.grow 48 [.str nm,.int .i64 kd,.int .i64 kn,.str ks] (by rw[Zl];omega) (by decide);have hcat:l.map Adr.Step.cells++[[.str nm,.int .i64 kd,.int .i64 kn,.str ks]]=(l++[(⟨nm,⟨kd,kn,ks⟩⟩:Adr.Step)]).map Adr.Step.cells:=by rw[YP];rfl
  rw[hcat]at gX';simp only[hcat]at hX;rw[hr0];refine azb (ai t2 (ai t3 (ai t4 t5))) ?_;refine use (cH _ rfl) ?_;refine azb (ai t2 (ai t3 (ai t4 t5))) ?_;refine use (cS _ rfl) ?_;refine azb (ai t2 (ai t3 (ai t4 (ai t5 hX)))) ?_;refine use (cK _ rfl) ?_;refine azb (ai t2 (ai t3 (ai t4 t5))) ?_;exact⟨f,by omega,r3,l++[(⟨nm,⟨kd,kn,ks⟩⟩:Adr.Step)],W',o',t',by omega,by simp;omega,hmod,rfl,gX',by(exact ev0 t2),by(exact ev0 t3),by(exact ev0 t4),by(exact ev0 t5)⟩
 ·rw[if_neg hgo]at hmod;injection hmod with hm1 hm2;subst hm1;subst hm2;have cD:=fun h hb=>cxr Adr.dataW r (h:=h) (i:=1) hb
  have l1:=Adr.has_len Adr.dataW r;obtain⟨⟨dt,r1⟩,hr1⟩:=Ex (Adr.hasP Adr.dataW r);rw[hr1]at cD l1 hF;dsimp only at cD l1 hF;have cT:=fun h hb=>bwy r1 (by omega) (h:=h) (i:=1) hb
  have l2:=Adr.word_len r1;obtain⟨⟨ty,r2⟩,hr2⟩:=Ex (Adr.wordP r1);rw[hr2]at cT l2 hF;dsimp only at cT l2 hF;have cK:=fun h hb=>czm [46] r2 (h:=h) (i:=1) hb
  have l3:=Adr.skip_len [46] r2;obtain⟨r3,hr3⟩:=Ex (Adr.skipP [46] r2);rw[hr3]at cK l3 hF;have cN:=fun h hb=>bwy r3 (by omega) (h:=h) (i:=1) hb
  have l4:=Adr.word_len r3;obtain⟨⟨na,r4⟩,hr4⟩:=Ex (Adr.wordP r3);rw[hr4]at cN l4 hF;dsimp only at cN l4 hF;have cY:=fun h hb=>dzi r4 (by omega) (h:=h) (i:=1) hb
  have l5:=Adr.key_len r4;obtain⟨⟨⟨kd,kn,ks⟩,⟨re,ba⟩⟩,hr5⟩:=Ex (Adr.keyP r4);rw[hr5]at cY l5 hF;dsimp only[Adr.K.A]at cY l5 hF;have ck:=fun h=>cvk ty (by omega) h
  unfold adB at cD cT cK cN cY;have hdw:Adr.dataW=[100,97,116,97,46]:=rfl;rw[hdw]at cD;have start:∀{G:Prop},(r.bad=true->G)->(r.bad=false->Adr.begins r.rest Adr.modW=false->G)->G:=fun p q=>by
   cases hb:r.bad
   ·refine q hb ?_;cases hB:Adr.begins r.rest Adr.modW
    ·rfl
    ·exact absurd ⟨hb,hB⟩ hgo
   ·exact p hb
  have lx:=Gs.le gX;refine start (fun hb=>?_) (fun hb hB=>?_)
  ·rw[hb]at cD⊢;refine azb (ai t2 (ai t3 (ai t4 t5))) ?_;refine use (cD _ rfl) ?_;refine azb (ai t2 (ai t3 (ai t4 t5))) ?_;refine use (cT _ rfl) ?_;refine azb (ai t2 (ai t3 (ai t4 t5))) ?_;refine use (cK _ rfl) ?_;refine azb (ai t2 (ai t3 (ai t4 t5))) ?_;refine use (cN _ rfl) ?_;refine azb (ai t2 (ai t3 (ai t4 t5))) ?_;refine use (cY _ rfl) ?_;have zle:leL [.sl 0 .nil [],.bool false,.str [],.str [],.int .i64 0,.int .i64 0,.str []] Adr.Ad.zero.cells:=⟨⟨rfl,.inr rfl,.inl rfl⟩,rfl,rfl,rfl,rfl,rfl,rfl,trivial⟩;cases ba;rotate_left
   ·rw[if_pos (.inl rfl)]at hF;subst hF;refine azb (ai t2 (ai t3 (ai t4 t5))) ?_;exact⟨.tup [.agg Adr.Ad.zero.cells,.int .i64 2],⟨zle,rfl,trivial⟩,rfl⟩
   cases hre:re != [];rotate_left
   ·rw[if_pos (.inr (.inl (Y9.1 hre)))]at hF;subst hF;refine azb (ai t2 (ai t3 (ai t4 (ai t5 hre)))) ?_;exact⟨.tup [.agg Adr.Ad.zero.cells,.int .i64 2],⟨zle,rfl,trivial⟩,rfl⟩
   refine azb (ai t2 (ai t3 (ai t4 (ai t5 hre)))) ?_;refine use (ck _) ?_;cases hkb:Adr.kindB ty
   ·rw[if_pos (.inr (.inr hkb))]at hF;subst hF;refine azb (ai t2 (ai t3 (ai t4 t5))) ?_;exact⟨.tup [.agg Adr.Ad.zero.cells,.int .i64 2],⟨zle,rfl,trivial⟩,rfl⟩
   rw[if_neg (by rintro(h|h|h);cases h;rw[bne_eq_false_iff_eq]at hre;exact h hre;rw[hkb]at h;cases h)]at hF;have lm:(l.map Adr.Step.cells).length=l.length:=Zl ..;by_cases hlen:(l.length:Int)>16
   ·rw[if_pos (by omega)]at hF;subst hF;refine azb (ai t2 (ai t3 (ai t4 (ai t5 (ai lm hlen))))) ?_;exact⟨.tup [.agg Adr.Ad.zero.cells,.int .i64 4],⟨zle,rfl,trivial⟩,rfl⟩
   ·rw[if_neg (by omega)]at hF;subst hF;refine azb (ai t2 (ai t3 (ai t4 (ai t5 (ai lm hlen))))) ?_;exact⟨.tup [.agg (Adr.Ad.cells ⟨l,dt,ty,na,⟨kd,kn,ks⟩⟩),.int .i64 0],⟨⟨lx,rfl,rfl,rfl,rfl,rfl,rfl,trivial⟩,rfl,trivial⟩,rfl⟩
  ·rw[hb]at cD⊢;have cH:=fun h hb=>cxr Adr.modW r (h:=h) (i:=1) hb
   have hh1:Adr.hasP Adr.modW r=(false,r):=by unfold Adr.hasP;rw[hB,if_neg (by decide)]
   have hmw:Adr.modW=[109,111,100,117,108,101,46]:=rfl;rw[hh1,hmw]at cH;unfold adB at cH;rw[hb]at cH;refine azb (ai t2 (ai t3 (ai t4 t5))) ?_;refine use (cH _ rfl) ?_;refine azb (ai t2 (ai t3 (ai t4 t5))) ?_;refine use (cD _ rfl) ?_;refine azb (ai t2 (ai t3 (ai t4 t5))) ?_;refine use (cT _ rfl) ?_;refine azb (ai t2 (ai t3 (ai t4 t5))) ?_;refine use (cK _ rfl) ?_;refine azb (ai t2 (ai t3 (ai t4 t5))) ?_;refine use (cN _ rfl) ?_;refine azb (ai t2 (ai t3 (ai t4 t5))) ?_;refine use (cY _ rfl) ?_;have zle:leL [.sl 0 .nil [],.bool false,.str [],.str [],.int .i64 0,.int .i64 0,.str []] Adr.Ad.zero.cells:=⟨⟨rfl,.inr rfl,.inl rfl⟩,rfl,rfl,rfl,rfl,rfl,rfl,trivial⟩;cases ba;rotate_left
   ·rw[if_pos (.inl rfl)]at hF;subst hF;refine azb (ai t2 (ai t3 (ai t4 t5))) ?_;exact⟨.tup [.agg Adr.Ad.zero.cells,.int .i64 2],⟨zle,rfl,trivial⟩,rfl⟩
   cases hre:re != [];rotate_left
   ·rw[if_pos (.inr (.inl (Y9.1 hre)))]at hF;subst hF;refine azb (ai t2 (ai t3 (ai t4 (ai t5 hre)))) ?_;exact⟨.tup [.agg Adr.Ad.zero.cells,.int .i64 2],⟨zle,rfl,trivial⟩,rfl⟩
   refine azb (ai t2 (ai t3 (ai t4 (ai t5 hre)))) ?_;refine use (ck _) ?_;cases hkb:Adr.kindB ty
   ·rw[if_pos (.inr (.inr hkb))]at hF;subst hF;refine azb (ai t2 (ai t3 (ai t4 t5))) ?_;exact⟨.tup [.agg Adr.Ad.zero.cells,.int .i64 2],⟨zle,rfl,trivial⟩,rfl⟩
   rw[if_neg (by rintro(h|h|h);cases h;rw[bne_eq_false_iff_eq]at hre;exact h hre;rw[hkb]at h;cases h)]at hF;have lm:(l.map Adr.Step.cells).length=l.length:=Zl ..;by_cases hlen:(l.length:Int)>16
   ·rw[if_pos (by omega)]at hF;subst hF;refine azb (ai t2 (ai t3 (ai t4 (ai t5 (ai lm hlen))))) ?_;exact⟨.tup [.agg Adr.Ad.zero.cells,.int .i64 4],⟨zle,rfl,trivial⟩,rfl⟩
   ·rw[if_neg (by omega)]at hF;subst hF;refine azb (ai t2 (ai t3 (ai t4 (ai t5 (ai lm hlen))))) ?_;exact⟨.tup [.agg (Adr.Ad.cells ⟨l,dt,ty,na,⟨kd,kn,ks⟩⟩),.int .i64 0],⟨⟨lx,rfl,rfl,rfl,rfl,rfl,rfl,trivial⟩,rfl,trivial⟩,rfl⟩
end AX
end
section
open Go.RowKit
namespace AX
section
variable {P:Program} {G:World->Prop} {C:Ctx} {h:Hp}
def Fz1(h:Hp)(x y:A):Prop:=(x=y/\x.data=true)\/∃i W T rows,x=.bs i W rows.length/\h.b[i]?=some (.row T rows.flatten)/\y=.sl W .no rows/\(∀r∈rows,r.length=W)/\rows.flatten.all A.data=true
def FzL(h:Hp):List A->List A->Prop
 |[],[]=>True
 |x::l,y::m=>Fz1 h x y/\FzL h l m
 |_,_=>False
theorem FzL.data{h:Hp}:∀{l m:List A},FzL h l m->m.all A.data=true
 |[],[],_=>rfl
 |x::l,y::m,hf=>by
  rw[ZH,Zg];refine⟨?_,FzL.data hf.2⟩;rcases hf.1 with⟨rfl,hd⟩|⟨i,W,T,rows,_,_,rfl,_,_⟩
  ·exact hd
  ·rfl
 |[],_::_,hf=>hf.elim
 |_::_,[],hf=>hf.elim
inductive FzV(h:Hp):A->A->Prop
 |one {x y:A} (e:Fz1 h x y):FzV h x y
 |agg {xs ys:List A} (e:FzL h xs ys):FzV h (.agg xs) (.agg ys)
 |tup {xs ys:List A} (e:FzL h xs ys):FzV h (.tup xs) (.tup ys)
theorem pcallv{f:FuncId}{args:List A}{y:A}(hc:ACall P G f args ⟨[],[]⟩ fun v h'=>FzV h' v y)(ha:args.all A.pure=true)(h:Hp):ACall P G f args h fun v h'=>v=y/\h'=h:=by
 intro C cs hI hr;have hid:Inv G C.hid ⟨[],[]⟩:=by
  refine⟨rfl,fun i b hb=>by simp at hb,⟨fun i b hb=>by simp at hb,fun i j b b' hb=>by simp at hb⟩,fun g i hg=>by simp[Ctx.hid]at hg,fun g j hs=>?_,fun t E W m ht=>by simp[Ctx.hid]at ht,fun t t' ht=>by simp[Ctx.hid]at ht,fun t=>by simp[Ctx.hid],hI.base,hI.glob⟩;exact⟨(hI.prot g j hs).1,rfl,fun t E W m ht=>by simp[Ctx.hid]at ht⟩
 refine(hc C.hid cs hid (RepL.pures (C:=C) (C':=C.hid) ⟨fun g j hs=>⟨hs,rfl⟩⟩ args cs ha hr)).mono ?_;rintro e w' ⟨C1,h1,v,cv,rfl,rfl,I1,S1,r1,hf⟩;have hblk:∀g,g<C.w.heap.size->C1.w.heap[g]?=C.w.heap[g]?:=fun g hg=>S1.frame g hg rfl fun t ht=>by simp[Ctx.hid]at ht
 have hnew:∀g i,C1.own g=some i->C.w.heap.size<=g:=fun g i hg=>by
  rcases YF g C.w.heap.size with hlt|hge
  ·have:=S1.own g hlt;rw[hg]at this;simp[Ctx.hid]at this
  ·exact hge
 let C2:Ctx:={ C with w:=C1.w,S:=fun g j=>C1.S g j\/((C1.own g).isSome=true),own:=fun g=>if g<C.w.heap.size then C.own g else none }
 have hsz:C.w.heap.size<=C1.w.heap.size:=S1.size;have he:Ext C C2:=by
  refine⟨fun g j hs=>?_,Ze _,fun _ _=>⟨rfl,rfl,rfl⟩,fun t E W m ht=>?_⟩
  ·obtain⟨k1,k2⟩:=S1.ext.cells g j hs;exact⟨.inl k1,k2⟩
  ·obtain⟨_,_,cap,h2,_⟩:=hI.rows t E W m ht;exact⟨m,ht,.inr ⟨rfl,rfl,fun cap hc=>hc.same (hblk _ h2.lt)⟩⟩
 have hown:∀g i,C2.own g=some i↔C.own g=some i:=fun g i=>by
  show(if g<C.w.heap.size then C.own g else none)=some i↔_
  split
  ·exact Iff.rfl
  ·next hg=>exact⟨fun e=>(by cases e),fun e=>absurd (hI.ownlt g i e).2.1 hg⟩
 have hprot:∀g j,C2.S g j->C.S g j\/C.w.heap.size<=g:=fun g j hs=>by
  rcases hs with hs|hs
  ·rcases S1.prot g j hs with h2|h2|⟨t,h2,_⟩
   ·exact .inl h2
   ·exact .inr h2
   ·simp[Ctx.hid]at h2
  ·obtain⟨i,hi⟩:=Option.isSome_iff_exists.1 hs;exact .inr (hnew g i hi)
 have hSlt:∀g j,C2.S g j->g<C1.w.heap.size:=fun g j hs=>by
  rcases hs with hs|hs
  ·exact(I1.prot g j hs).1
  ·obtain⟨i,hi⟩:=Option.isSome_iff_exists.1 hs;exact(I1.ownlt g i hi).2.1
 have hsame:Same C1 C2:=⟨fun g j hs=>⟨.inl hs,rfl⟩⟩;have frz:∀(xs ys:List A) (vs:List Value),FzL h1 xs ys->RepL C1 xs vs->RepL C2 ys vs:=by
  intro xs;induction xs with
  |nil=>
   intro ys vs hf hr;cases ys with
   |nil=>exact hr
   |cons y ys=>exact hf.elim
  |cons x xs ih=>
   intro ys vs hf hr;cases ys with
   |nil=>exact hf.elim
   |cons y ys=>
    obtain⟨c,cs',rfl,k1,k2⟩:=repL_cons.1 hr;refine repL_cons.2 ⟨c,cs',rfl,?_,ih ys cs' hf.2 k2⟩;rcases hf.1 with⟨rfl,hd⟩|⟨i,W,T,rows,rfl,hb,rfl,hW,hd⟩
    ·exact Rep.same hsame _ _ hd k1
    ·obtain⟨cap,rfl,hcap,hi,_⟩:=rep_bs.1 k1;obtain⟨ds,rest,q1,q2,_⟩:=I1.box i _ hb;have hsd:(C1.own (C1.κ i)).isSome=true:=by rw[I1.ok hb rfl];rfl
     have hdd:∀(l:List A) (ds:List Value),l.all A.data=true->RepL C1 l ds->RepL C2 l ds:=fun l ds hd hr=>RepL.same hsame l ds hd hr
     refine rep_sl.2 ⟨_,cap,rfl,hcap,az5 rows ds 0 hW hd (hdd _ _ hd q2) (fun j _=> .inr hsd) (fun j u hu=>?_),trivial⟩;have q1':C2.w.heap[C1.κ i]?=some (.cells (ds++rest).toArray T (0,0)):=q1;rw[cell_of_row _ _ _ _ _ _ q1'];have hj:j<ds.length:=(Zc.1 hu).1;simp only[List.getElem?_toArray];rw[show 0+0*W+j=j by omega,Zt hj];exact hu
 refine⟨C2,h,y,cv,rfl,rfl,⟨hI.nb,fun i b hib=>?_,⟨fun i b hb hl=>(hown _ _).2 (hI.ok hb hl),hI.ownk.2⟩,fun g i hg=>?_,fun g j hs=>?_,fun t E W m ht=>?_,hI.inj,hI.toks,Zr hI.base hsz,fun w2 hw=>?_⟩,⟨he,S1.os,S1.tape,S1.output,hsz,rfl,fun g hg _ _=>hblk g hg,fun g hg=>?_,fun g j hs=>?_,fun t ht=> .inr ⟨ht,rfl⟩⟩,?_,rfl,rfl⟩
 ·have hi:i<C.nb:=by rw[<-hI.nb];exact(Zc.1 hib).1
  exact(hI.box i b hib).ext he hi (fun hl=>⟨hI.ok hib hl,fun g hg=>hblk g (hI.ownlt g _ hg).2.1,fun g=>hown g _⟩) hsz
 ·obtain⟨k1,k2,k3⟩:=hI.ownlt g i ((hown g i).1 hg);exact⟨k1,Zw k2 hsz,k3⟩
 ·have hlt:=hSlt g j hs;rcases hprot g j hs with h2|h2
  ·obtain⟨k1,k2,k3⟩:=hI.prot g j h2;exact⟨hlt,by show(if g<C.w.heap.size then C.own g else none)=none;rw[if_pos k1,k2],k3⟩
  ·refine⟨hlt,by show(if g<C.w.heap.size then C.own g else none)=none;rw[if_neg (by omega)],fun t E W m ht e=>?_⟩;obtain⟨_,_,cap,k1,_⟩:=hI.rows t E W m ht;have:=k1.lt;have e':C.τ t=g:=e;omega
 ·obtain⟨k1,k2,cap,k3,k4⟩:=hI.rows t E W m ht;exact⟨by show(if C.τ t<C.w.heap.size then C.own (C.τ t)else none)=none;rw[if_pos k3.lt,k1],k2,cap,k3.same (hblk _ k3.lt),k4⟩
 ·exact hI.glob w2 fun g hg=>(hw g hg).trans (hblk g (Zw hg hI.base))
 ·show(if g<C.w.heap.size then C.own g else none)=C.own g
  rw[if_pos hg]
 ·rcases hprot g j hs with h2|h2
  ·exact .inl h2
  ·exact .inr (.inl h2)
 ·cases hf with
  |one hf=>
   have:=frz [v] [y] [cv] ⟨hf,trivial⟩ (repL_cons.2 ⟨_,_,rfl,r1,azm.2 rfl⟩);obtain⟨c,cs,e,k,_⟩:=repL_cons.1 this;injection e with e;subst e;exact k
  |agg hf=>
   obtain⟨vs,rfl,hl⟩:=rep_agg.1 r1;exact rep_agg.2 ⟨vs,rfl,frz _ _ vs hf hl⟩
  |tup hf=>
   obtain⟨vs,rfl,hl⟩:=rep_tup.1 r1;exact rep_tup.2 ⟨vs,rfl,frz _ _ vs hf hl⟩
theorem pcallz{f:FuncId}{args:List A}{ys:List A}(hc:ACall P G f args ⟨[],[]⟩ fun v h'=>∃xs,v=.agg xs/\FzL h' xs ys)(ha:args.all A.pure=true)(h:Hp):ACall P G f args h fun v h'=>v=.agg ys/\h'=h:=
 pcallv (hc.mono fun v h' ⟨xs,e,hf⟩=>by rw[e];exact .agg hf) ha h
end
end AX
end
section
open Go.RowKit
theorem bx3(b off n c:Nat)(news:List Value)(w:World)(hl:news.length=n*4)(hn:0<n)(hbig:n*48<=140737488355328)(hmax:n<=maxLen)(hc:∀j v,news[j]?=some v->w.cell? ((⟨b,off,none⟩:Addr).add j)=some v)(h1:∀u∈news,u.oneCell'=true):
  Calls Tryz.prog 159 #[.slice (some ⟨b,off,none⟩) n c] w fun e w'=>∃v',e=.returned v'/\w'.ownsRow w.heap.size 199 4 v' n news/\Below w.heap.size w w':=by
 obtain⟨i0,hi,hz0,hz1,hz2⟩:=info_parts (show(Tryz.prog.info? 199).map (fun i=>(i.zero,i.size,i.bytes))=some (some (.agg #[.string ⟨#[]⟩,.int .i64 0,.int .i64 0,.string ⟨#[]⟩]),4,48) by kernel_rfl);have q22:∀(w:World) (a:Option Addr) (n c n' c':Nat),(binOp .eql 167 (.slice a n c) (.slice none n' c')).run Tryz.prog w=.ok (.bool a.isNone) w:=fun w a n c n' c'=>Lib.run_eql_slice_nil w _ _ a n c n' c' Tryz.underlying167
 have u22:∀w,Sem.run Tryz.prog (underlying 167) w=.ok (TypeDesc.slice 199) w:=run_underlying Tryz.underlying167;have HC:=kept hc;have H1:=kept h1;clear hc h1;go_enter Tryz.func159,Tryz.ntmps159;go_wp2_with (at_builtin;refine wpList_append_own _ rfl _ _ 167 rfl w.heap.size 199 i0 (.agg #[.string ⟨#[]⟩,.int .i64 0,.int .i64 0,.string ⟨#[]⟩]) 4 48 Tryz.underlying167 hi hz0 hz1 hz2 rfl (by decide) _ _ _ rfl (World.ownsRow_made w #[] 0 (Ze _) (Z0 _) rfl) ⟨b,off,none⟩ n c news rfl ?qc1 ?qc2 ?qc3 ?qc4 ?qc5 ?qc6 ?_)
 case qc1=>exact hl
 case qc2=>
  intro j u hj;have:=HC.out j u hj;rw[Addr.add_lit]at this⊢;exact Lib.cell?_alloc_some _ this
 case qc3=>exact H1.out
 case qc4=>omega
 case qc5=>omega
 case qc6=>simp
 intro v' w1 hown hgrow hnil;have Hb:=kept (((Below.refl _ w).alloc (Ze _) (.cells #[] 199)).grown hgrow (by simp) (by intro k hk;simp[Value.ownBlock]at hk;omega));have Ho:=kept (show w1.ownsRow w.heap.size 199 4 v' n news by simpa using hown);clear hown hgrow hnil HC H1;go_wp2
 go_ret
 exact⟨v',rfl,Ho.out,Hb.out⟩
theorem bq4(a:Option Addr)(c:Nat)(w:World):
  Calls Tryz.prog 159 #[.slice a 0 c] w fun e w'=>(∃a' c',e=.returned (.slice a' 0 c'))/\Below w.heap.size w w':=by
 have q22:∀(w:World) (a:Option Addr) (n c n' c':Nat),(binOp .eql 167 (.slice a n c) (.slice none n' c')).run Tryz.prog w=.ok (.bool a.isNone) w:=fun w a n c n' c'=>Lib.run_eql_slice_nil w _ _ a n c n' c' Tryz.underlying167
 have u22:∀w,Sem.run Tryz.prog (underlying 167) w=.ok (TypeDesc.slice 199) w:=run_underlying Tryz.underlying167;cases a with
 |none=>
  go_enter Tryz.func159,Tryz.ntmps159;go_wp2
  go_ret
  exact⟨⟨_,_,rfl⟩,Below.refl _ _⟩
 |some ad=>
  obtain⟨i0,hi,hz0,hz1,hz2⟩:=info_parts (show(Tryz.prog.info? 199).map (fun i=>(i.zero,i.size,i.bytes))=some (some (.agg #[.string ⟨#[]⟩,.int .i64 0,.int .i64 0,.string ⟨#[]⟩]),4,48) by kernel_rfl);go_enter Tryz.func159,Tryz.ntmps159;go_wp2_with (at_builtin;refine wpList_append_own _ rfl _ _ 167 rfl w.heap.size 199 i0 (.agg #[.string ⟨#[]⟩,.int .i64 0,.int .i64 0,.string ⟨#[]⟩]) 4 48 Tryz.underlying167 hi hz0 hz1 hz2 rfl (by decide) _ _ _ rfl (World.ownsRow_made w #[] 0 (Ze _) (Z0 _) rfl) ad 0 c [] rfl rfl (by intro j u hj;simp at hj) (by intro u hu;cases hu) (by unfold maxLen;omega) (by omega) (by simp) ?_);intro v' w1 hown hgrow hnil;have Hb:=kept (((Below.refl _ w).alloc (Ze _) (.cells #[] 199)).grown hgrow (by simp) (by intro k hk;simp[Value.ownBlock]at hk;omega));have Hv:∃a' c',v'=.slice a' 0 c':=by
   rcases hown.2 with⟨rfl,_⟩|⟨g,cap,cur,rfl,_⟩
   ·exact⟨_,_,rfl⟩
   ·exact⟨_,_,rfl⟩
  obtain⟨a',c',rfl⟩:=Hv;clear hown hgrow hnil;go_wp2
  go_ret
  exact⟨⟨_,_,rfl⟩,Hb.out⟩
namespace AX
theorem awc(W0:Nat)(o:Own)(h:Hp):AT 159 [.sl W0 o []] h (.sl 4 .no []):=by
 intro C es hI ha;obtain⟨c,es',rfl,h1,h2⟩:=repL_cons.1 ha;rw[azm]at h2;subst h2;obtain⟨a,cap,rfl,_,_,_⟩:=rep_sl.1 h1;refine(bq4 a cap C.w).mono ?_;rintro e w' ⟨⟨a',c',rfl⟩,hb⟩;obtain⟨i1,s1⟩:=aq3 hI hb;exact⟨C.at w',h,.sl 4 .no [],_,rfl,rfl,i1,s1,rep_sl.2 ⟨a',c',rfl,Z0 _,by unfold RepRows;trivial,trivial⟩,rfl,rfl⟩
theorem ayz(o:Own)(rows:List (List A))(h0:rows≠[])(hbig:rows.length*48<=140737488355328)(hmax:rows.length<=maxLen)(h:Hp):
  AC 159 [.sl 4 o rows] h fun v h'=>v=.bs h.b.length 4 rows.length/\h'=⟨h.b++[.row 199 rows.flatten],h.t⟩:=by
 intro C es hI ha;obtain⟨c,es',rfl,h1,h2⟩:=repL_cons.1 ha;rw[azm]at h2;subst h2;have hpos:0<rows.length:=Yn.2 h0;obtain⟨g,off,cap,cs,rfl,k1,k2,k3,k4,k5⟩:=av3 h1 hpos;refine(bx3 g off rows.length cap cs C.w k2 hpos hbig hmax k5 (az8 k1 (ajr k3))).mono ?_;rintro e w' ⟨v',rfl,hown,hb⟩;rcases hown.2 with⟨_,hz⟩|⟨g',cap',cur,rfl,hg,hh,hcap,hcm,hcs,htake⟩
 ·omega
 ·have hcur:cur=(cs++cur.toList.drop (rows.length*4)).toArray:=by
   apply ZV.1;rw[<-htake];simp
  rw[hcur]at hh;obtain⟨C',m1,m2,m3,m4,m5,m6⟩:=axh hI hb hg hh k1;exact⟨C',_,.bs h.b.length 4 rows.length,_,rfl,m1,m2,m3,rep_bs.2 ⟨cap',by rw[m4],hcap,m5,hcm,by rw[m6,<-hcs];exact Nat.le_of_eq (congrArg Array.size hcur)⟩,rfl,rfl⟩
end AX
namespace AX
theorem setCells_eq:∀(xs l:List A) (off:Nat),off+xs.length<=l.length->setCells l off xs=l.take off++xs++l.drop (off+xs.length):=by
 intro xs;induction xs with
 |nil=>intro l off _;simp[setCells]
 |cons x xs ih=>
  intro l off hlt;rw[Zf]at hlt;rw[setCells,ih _ _ (by simp;omega),List.take_add_one,Yw (by omega),List.take_set_of_le (Ze _),List.drop_set_of_lt (by omega)];simp[show off+1+xs.length=off+(xs.length+1) by omega]
def bareS(s:Adr.Step):Adr.Step:=⟨s.name,Adr.K.none⟩
def barL(mods:List Adr.Step)(j:Nat):List A:=(((mods.take j).map bareS).map Adr.Step.cells).flatten++((mods.drop j).map Adr.Step.cells).flatten
theorem akw(l:List Adr.Step):((l.map Adr.Step.cells).flatten).length=l.length*4:=by
 induction l with
 |nil=>rfl
 |cons x l ih=>rw[ZO,ZN,Za,ih];simp[Adr.Step.cells];omega
theorem bj6(mods:List Adr.Step)(j:Nat)(hj:j<=mods.length):(barL mods j).length=mods.length*4:=by
 unfold barL;rw[Za,akw,akw,Zl,Zm,Zu,<-Yo];congr 1;omega
theorem cxb(mods:List Adr.Step)(j:Nat)(hj:j<mods.length):setCells (barL mods j) (j*4+1) [.int .i64 0,.int .i64 0,.str []]=barL mods (j+1):=by
 rw[setCells_eq _ _ _ (by rw[bj6 _ _ (by omega)];simp;omega)];have hp:((((mods.take j).map bareS).map Adr.Step.cells).flatten).length=j*4:=by
  rw[akw,Zl,Zm];congr 1;omega
 have hd:mods.drop j=mods[j]::mods.drop (j+1):=ZX hj;have ht:mods.take (j+1)=mods.take j++[mods[j]]:=by rw[ZP hj]
 unfold barL;rw[hd,ht,YP,YP,List.flatten_append];generalize (((mods.take j).map bareS).map Adr.Step.cells).flatten=p at hp;obtain⟨nm,⟨kd,kn,ks⟩⟩:=mods[j];simp only[ZO,ZN,Adr.Step.cells,ZL,ZA,Zf,Zp];generalize ((mods.drop (j+1)).map Adr.Step.cells).flatten=q;rw[List.take_append,Zy (by omega),List.drop_append,Y0 (by omega),hp];rw[show j*4+1-j*4=1 by omega,show j*4+1+(0+1+1+1)-j*4=4 by omega];simp[bareS,Adr.K.none,Adr.Step.cells]
def akh:AX.AFn:=⟨26,aS [aR 1 (.box 172 (.t 0)),aR 2 (.alloc 172 [.sl 0 .nil [],.bool false,.str [],.str [],.int .i64 0,.int .i64 0,.str []])] (aS [aR 5 (.load true 7 (.t 1)),aR 3 (.alloc 172 [.sl 0 .nil [],.bool false,.str [],.str [],.int .i64 0,.int .i64 0,.str []]),aU (.store 7 (.t 3) (.t 5))] (aS [aR 6 (.build [.int .i64 0,.int .i64 0,.str []] []),aF 7 4 3,aU (.store 3 (.t 7) (.t 6))] (aS [aF 8 0 1,aL 9 8,aR 10 (.call 159 [.t 9]),aF 11 0 3,aU (.store 1 (.t 11) (.t 10))] (.seq (aS [aF 12 0 3,aL 13 12,aR 14 (.len false (.t 13)),aR 15 (.mv (aI 0))] (.block 0 (.loop (aS [aR 16 (.bin .lss (.t 15) (.t 14))] (.seq (.cond (.t 16) (.skip) (.exit 0)) (.seq (.block 1 (aS [aM 17 15,aM 4 17] (.reg false [aF 18 0 3,aL 19 18,aM 20 4,aR 21 (.build [.int .i64 0,.int .i64 0,.str []] []),aR 22 (.iaddr 4 (.t 19) (.t 20)),aF 23 1 22,aU (.store 3 (.t 23) (.t 21))]))) (.reg false [aR 24 (.bin .add (.t 15) (aI 1)),aM 15 24]))))))) (aS [aR 25 (.load true 7 (.t 3)),aU (.store 7 (.t 2) (.t 25))] (.ret)))))),[.c 2 true 7]⟩
theorem bw4:AX.compFn Tryz.prog 148=some akh:=by kernel_rfl
theorem cz3(a:Adr.Ad)(hn:a.mods.length<=3000000)(h:Hp):AT 148 [.agg a.cells] h (.agg (Adr.bare a).cells):=by
 obtain⟨mods,data,ty,nm,⟨kk,kn,ks⟩⟩:=a;dsimp only at hn;have hbc:(Adr.bare ⟨mods,data,ty,nm,⟨kk,kn,ks⟩⟩).cells=[.sl 4 .no ((mods.map fun s=>(⟨s.name,Adr.K.none⟩:Adr.Step)).map Adr.Step.cells),.bool data,.str ty,.str nm,.int .i64 0,.int .i64 0,.str []]:=rfl;rw[hbc];refine pcallz ?_ (by simp[A.pure,A.data,Adr.Ad.cells]) h;refine aza mixedT bw4 (by simp[akh]) ?_;dsimp only[akh,Adr.Ad.cells];by_cases hm:mods=[]
 ·subst hm;have hc:=fun h=>awc 4 .no h
  have hz:¬(0:Int)<((0:Nat):Int):=by decide
  simp only[Yg];refine azb ti ?_;refine use (hc _) ?_;refine azb ti ?_;refine ax3 ?_;refine azb hz ?_;exact⟨_,le_refl _,_,rfl,⟨.inl ⟨rfl,rfl⟩,.inl ⟨rfl,rfl⟩,.inl ⟨rfl,rfl⟩,.inl ⟨rfl,rfl⟩,.inl ⟨rfl,rfl⟩,.inl ⟨rfl,rfl⟩,.inl ⟨rfl,rfl⟩,trivial⟩⟩
 ·have hrne:mods.map Adr.Step.cells≠[]:=by simpa using hm
  have lm:(mods.map Adr.Step.cells).length=mods.length:=Zl ..;have hc:=fun h=>ayz .no (mods.map Adr.Step.cells) hrne (by rw[lm];omega) (by rw[lm];unfold maxLen;omega) h
  rw[lm]at hc;refine azb ti ?_;refine use (hc _) ?_;refine azb ti ?_;have hL0:(mods.map Adr.Step.cells).flatten=barL mods 0:=by unfold barL;simp
  rw[hL0];refine azh (fun mm ts h=>∃(j:Nat) (B0:Blk),mm=mods.length-j/\j<=mods.length/\h=⟨[B0,.cells 172 [.sl 0 .nil [],.bool false,.str [],.str [],.int .i64 0,.int .i64 0,.str []],.cells 172 [.bs 3 4 mods.length,.bool data,.str ty,.str nm,.int .i64 0,.int .i64 0,.str []],.row 199 (barL mods j)],[]⟩/\ts 2=.ptr 1 0/\ts 3=.ptr 2 0/\ts 14=.int .i64 (mods.length:Nat)/\ts 15=.int .i64 (j:Nat)) mods.length ?_ ?_
  ·exact⟨0,_,by omega,by omega,rfl,by(exact ev0 ti),by(exact ev0 ti),by(exact ev0 ti),by(exact aqj ti)⟩
  rintro mm ts h ⟨j,B0,rfl,hjc,rfl,t2,t3,t14,t15⟩;by_cases hj:j<mods.length
  ·have hlt:(j:Int)<(mods.length:Int):=by omega
   have hj0:(0:Int)<=(j:Int):=by omega
   have ei:IntKind.i64.wrap ((j:Int)+1)=((j+1:Nat):Int):=by rw[wrap64 (by omega) (by omega)];omega
   have hset:=cxb mods j hj;have hln:j*4+1+3<=(barL mods j).length:=by rw[bj6 _ _ (by omega)];omega
   simp only[setCells]at hset;refine azb (ai t2 (ai t3 (ai t14 (ai t15 (ai hlt (ai hj0 (ai hln (ai hset ei)))))))) ?_;exact⟨mods.length-(j+1),by omega,j+1,B0,rfl,by omega,rfl,by(exact ev0 t2),by(exact ev0 t3),by(exact ev0 t14),by(exact ev0 ei)⟩
  ·have hlt:¬((j:Int)<(mods.length:Int)):=by omega
   have hje:j=mods.length:=by omega
   subst hje;refine azb (ai t2 (ai t3 (ai t14 (ai t15 hlt)))) ?_;refine⟨_,le_refl _,_,rfl,⟨.inr ⟨3,4,199,(mods.map bareS).map Adr.Step.cells,by simp,?_,rfl,?_,?_⟩,.inl ⟨rfl,rfl⟩,.inl ⟨rfl,rfl⟩,.inl ⟨rfl,rfl⟩,.inl ⟨rfl,rfl⟩,.inl ⟨rfl,rfl⟩,.inl ⟨rfl,rfl⟩,trivial⟩⟩
   ·show some (Blk.row _ _)=some _
    congr 2;unfold barL;simp
   ·intro r hr;obtain⟨s,_,rfl⟩:=Yb.1 hr;rfl
   ·rw[List.all_flatten,ZC];intro r hr;obtain⟨s,_,rfl⟩:=Yb.1 hr;rfl
end AX
def BWtr(B b:Nat)(l:List UInt8)(w:World):Prop:=
 B<=b/\∃p v,(p=.pointer none\/p=.pointer (some ⟨b,0,none⟩))/\w.heap[b]?=some (.cells #[p,v] 142 (0,0))/\w.ownsRowF B 5 1 v l.length (Lib.byteCells l)/\v.ownBlock≠some b
def BWtrU(B b:Nat)(l:List UInt8)(w:World):Prop:=
 B<=b/\∃v,w.heap[b]?=some (.cells #[.pointer (some ⟨b,0,none⟩),v] 142 (0,0))/\w.ownsRowF B 5 1 v l.length (Lib.byteCells l)/\v.ownBlock≠some b
theorem bkv(b:Nat)(w:World)(h0:w.cell? ⟨b,0,none⟩=some (.pointer none))(hsh:w.shape? b=some (142,2))(hfz:w.frozen? ⟨b,0,none⟩=false):
  Calls Tryz.prog 141 #[.pointer (some ⟨b,0,none⟩)] w fun e w'=>e=.returned (.tuple #[])/\w'=w.setCell ⟨b,0,none⟩ (.pointer (some ⟨b,0,none⟩)):=by
 obtain⟨j,hj,hjs⟩:=Zq.1 (show(Tryz.prog.info? 142).map (·.size)=some 2 by kernel_rfl);have hlies:liesAt Tryz.prog Tryz.prog.depth 142 (2/Tryz.prog.cellsOf 142) 0 142 1=true:=by kernel_rfl
 go_enter Tryz.func141,Tryz.ntmps141;go_wp2;rw[Lib.run_to_unsafe w ⟨b,0,none⟩ Tryz.underlying139 Tryz.underlying213 hj (by rw[hjs];decide) hsh (by show 0<2;omega)];simp only[Result.andThen];rw[Oper.upon_value];go_wp2;rw[run_callFunc_extern Tryz.func154 (by kernel_rfl) (by kernel_rfl) (by kernel_rfl) (e:=Extern.AbiNoEscape.same) (by kernel_rfl)];rw[Lib.run_noEscape];simp only[Result.andThen];rw[Oper.upon_value];go_wp2;rw[Lib.run_from_unsafe w ⟨b,0,none⟩ Tryz.underlying213 Tryz.underlying139 hj hsh hlies];simp only[Result.andThen];rw[Oper.upon_value];go_wp2
 go_end0
 exact⟨rfl,rfl⟩
theorem aqt{w:World}{b:Nat}{p v:Value}{T:TypeId}(h:w.heap[b]?=some (.cells #[p,v] T (0,0))):w.cell? ⟨b,0,none⟩=some p/\w.cell? ⟨b,1,none⟩=some v/\(∀i,w.frozen? ⟨b,i,none⟩=false)/\w.shape? b=some (T,2)/\b<w.heap.size:=by
 refine⟨?_,?_,fun i=>?_,?_,(ZJ.1 h).1⟩
 ·rw[cell_of_row _ _ _ _ _ _ h];rfl
 ·rw[cell_of_row _ _ _ _ _ _ h];rfl
 ·simp[World.frozen?,h]
 ·simp[World.shape?,h]
theorem BWtr.used{B b:Nat}{l:List UInt8}{w:World}{p v:Value}(hB:B<=b)(hb:w.heap[b]?=some (.cells #[p,v] 142 (0,0)))(hown:w.ownsRowF B 5 1 v l.length (Lib.byteCells l))(hne:v.ownBlock≠some b):
  BWtrU B b l (w.setCell ⟨b,0,none⟩ (.pointer (some ⟨b,0,none⟩))):=by
 refine⟨hB,v,?_,?_,hne⟩
 ·simp[World.setCell,Yh,hb]
 ·exact hown.kept (row:=some b) ⟨rfl,rfl,rfl,by simp[World.setCell],fun k _ hk=>Below.heap_setCell _ _ _ _ (fun e=>hk (by simp[e]))⟩ (Or.inr hne)
def BF(F:Nat->Prop)(b:Nat)(l:List UInt8)(w:World):Prop:=
 ∃p v,(p=.pointer none\/p=.pointer (some ⟨b,0,none⟩))/\w.heap[b]?=some (.cells #[p,v] 142 (0,0))/\w.ownsRowF 0 5 1 v l.length (Lib.byteCells l)/\v.ownBlock≠some b/\F b/\∀k,v.ownBlock=some k->F k
theorem cq4{F:Nat->Prop}{b:Nat}{l:List UInt8}{w:World}(h:BF F b l w):
  Calls Tryz.prog 141 #[.pointer (some ⟨b,0,none⟩)] w fun e w'=>e=.returned (.tuple #[])/\(∃v,w'.heap[b]?=some (.cells #[.pointer (some ⟨b,0,none⟩),v] 142 (0,0))/\w'.ownsRowF 0 5 1 v l.length (Lib.byteCells l)/\v.ownBlock≠some b/\F b/\∀k,v.ownBlock=some k->F k)/\Fr F w w':=by
 obtain⟨p,v,hp,hb,hown,hne,hF,hFk⟩:=h;obtain⟨c0,c1,hf,hsh,hlt⟩:=aqt hb;rcases hp with rfl|rfl
 ·refine(bkv b w c0 hsh (hf 0)).mono ?_;rintro e w' ⟨rfl,rfl⟩;obtain⟨_,v',hb',hown',hne'⟩:=BWtr.used (B:=0) (Z0 _) hb hown hne;have hv:v'=v:=by
   have:=(aqt hb').2.1;have h2:(w.setCell ⟨b,0,none⟩ (.pointer (some ⟨b,0,none⟩))).heap[b]?=some (.cells #[.pointer (some ⟨b,0,none⟩),v] 142 (0,0)):=by simp[World.setCell,Yh,hb]
   have h3:=(aqt h2).2.1;rw[h3]at this;injection this with this;exact this.symm
  subst hv;exact⟨rfl,⟨v',hb',hown',hne',hF,hFk⟩,Fr.set w b 0 _ hF⟩
 ·refine(Any.Builder_copyCheck_used Tryz.lays240 Tryz.Builder_X72_240 b w c0).mono ?_;rintro e w' ⟨rfl,rfl⟩;exact⟨rfl,⟨v,hb,hown,hne,hF,hFk⟩,Fr.refl F _⟩
theorem cxn{F:Nat->Prop}{b:Nat}{l:List UInt8}{w:World}(h:BF F b l w)(s:List UInt8)(hlen:l.length+s.length<=1000000000):
  Calls Tryz.prog 121 #[.pointer (some ⟨b,0,none⟩),.string ⟨s.toArray⟩] w fun e w'=>e=.returned (.tuple #[.int .i64 s.length,.nilIface])/\BF (fun k=>F k\/w.heap.size<=k) b (l++s) w'/\Fr F w w':=by
 obtain⟨i0,hi,hz0,hz1,hz2⟩:=info_parts bqr;go_enter Tryz.func121,Tryz.ntmps121;go_wp2_with fail;(with_reducible refine(cq4 h).mono ?_);rintro e w1 ⟨rfl,⟨v,hbk,hown,hne,hF,hFk⟩,hb1⟩;obtain⟨c0,c1,hf,hsh,hlt⟩:=aqt hbk;go_wp2_with (at_builtin;refine axi _ rfl _ _ 140 9 rfl 5 i0 Tryz.underlying140 Tryz.underlying9 hi hz0 hz1 hz2 _ _ _ rfl hown ⟨s.toArray⟩ rfl ?c3 ?c4 ?_)
 case c3=>rw[size_mk];unfold maxLen;omega
 case c4=>rw[size_mk];omega
 intro v' w2 hown' hgrow hwhere;have hb2:w2.heap[b]?=some (.cells #[.pointer (some ⟨b,0,none⟩),v] 142 (0,0)):=(hgrow.block b hlt (fun e=>hne e.symm)).trans hbk;obtain⟨d0,d1,hf2,_,hlt2⟩:=aqt hb2;have f1:=hf2 1;have hown2:w2.ownsRowF 0 5 1 v' (l++s).length (Lib.byteCells (l++s)):=by
  have e1:(⟨s.toArray⟩:ByteArray).size=s.length:=size_mk s;have e2:Lib.byteCells l++Lib.strCells ⟨s.toArray⟩=Lib.byteCells (l++s):=by unfold Lib.strCells Lib.byteCells;simp
  rw[Za,<-e2,<-e1];exact hown'
 have hne2:=Lib.ownBlock_neF hown2 hb2 (show 142≠5 by decide);have hwb1:=hb1.size
 have Hfin:=kept (show BF (fun k=>F k\/w.heap.size<=k) b (l++s) (w2.setCell ⟨b,1,none⟩ v')from by
  refine⟨_,v',.inr rfl,?_,?_,hne2,.inl hF,fun k hk=>?_⟩
  ·simp[World.setCell,Yh,hb2]
  ·exact hown2.kept (row:=some b) ⟨rfl,rfl,rfl,by simp[World.setCell],fun k _ hk=>Below.heap_setCell _ _ _ _ (fun e=>hk (by simp[e]))⟩ (Or.inr hne2)
  ·rcases hwhere k hk with h1|h1
   ·exact .inl (hFk k h1)
   ·exact .inr (by omega))
 have Hfr:=kept ((hb1.trans (Fr.grown hgrow fun k hk=>hFk k hk)).trans (Fr.set w2 b 1 v' hF));obtain⟨ao,n',cap,rfl⟩:∃ao n' cap,v'=.slice ao n' cap:=by
  rcases hown'.2 with⟨hv,_⟩|⟨g,cap,cur,fz,hv,_⟩
  ·exact⟨_,_,_,hv⟩
  ·exact⟨_,_,_,hv⟩
 clear hown' hown2 hne2 hb2 hbk hown hne hgrow hb1 h hwhere;go_wp2
 go_ret2
 exact⟨by simp,Hfin.out,Hfr.out⟩
theorem bwn{F:Nat->Prop}{b:Nat}{l:List UInt8}{w:World}(h:BF F b l w)(h0:l≠[]):
  Calls Tryz.prog 97 #[.pointer (some ⟨b,0,none⟩)] w fun e w'=>e=.returned (.string ⟨l.toArray⟩)/\Fr F w w':=by
 obtain⟨p,v,hp,hbk,hown,hne,hFb,hFk⟩:=h;have hl0:l.length≠0:=by simpa using h0
 obtain⟨g,cap,cur,fz,rfl,hbg,hg,hfz,hnc,hcm,hcs,htake⟩:∃g cap cur fz,v=.slice (some ⟨g,0,none⟩) l.length cap/\0<=g/\w.heap[g]?=some (.cells cur 5 fz)/\fz.2<=l.length*1/\l.length<=cap/\cap<=maxLen/\cur.size=cap*1/\cur.toList.take (l.length*1)=Lib.byteCells l:=by
  rcases hown.2 with⟨_,hz⟩|⟨g,cap,cur,fz,hv,r⟩
  ·exact absurd hz hl0
  ·exact⟨g,cap,cur,fz,hv,r⟩
 have HFg:=kept (hFk g rfl);have c1:w.drew.cell? ⟨b,1,none⟩=some (.slice (some ⟨g,0,none⟩) l.length cap):=(aqt hbk).2.1;have hSD:(Builtin.unsafeSliceData_ #[140] 186 #[.slice (some ⟨g,0,none⟩) l.length cap]).run Tryz.prog w.drew=.ok (.pointer (some ⟨g,0,none⟩)) w.drew:=
  Lib.run_unsafeSliceData_row _ _ _ _ _ _ (by omega)
 have hUS:(Builtin.unsafeString_ #[186,3] 9 #[.pointer (some ⟨g,0,none⟩),.int .i64 l.length]).run Tryz.prog w.drew=.ok (.string ⟨l.toArray⟩) (w.drew.freeze ⟨g,0,none⟩ l.length):=by
  refine Lib.run_unsafeString_row w.drew 186 3 9 5 Tryz.underlying186 Tryz.Builder_Extra_169.cellsByte g cur.size (by have hg':w.drew.heap[g]?=some (.cells cur 5 fz):=hg;simp[World.shape?,hg']) l h0 (by omega) (by unfold maxLen at hcm;omega) ?_;intro j x hx;have:=hown.cells (g:=g) rfl j (.int .u8 x.toNat) (by simp[Lib.byteCells,hx]);exact this
 have Hfr:=kept (show Fr F w (w.drew.freeze ⟨g,0,none⟩ l.length)from by
  unfold World.freeze;split
  ·exact⟨rfl,rfl,rfl,Ze _,fun _ _ _=>rfl⟩
  ·refine⟨rfl,rfl,rfl,by simp,fun k hk hn=>?_⟩;have hkg:k≠g:=fun e=>hn (by rw[e];exact HFg.out)
   simp only[Yh,if_neg hkg.symm];rfl)
 clear hown hp hne hbk hnc hcm hcs htake hfz hg hl0 h0 hFk hFb;have mixed:=Tryz.lays169.mixed;go_enter Tryz.func97,Tryz.ntmps97;go_wp2
 go_region_o
 all_goals (go_wp2;go_ret;exact⟨rfl,Hfr.out⟩)
namespace AX
def bwt(l:List UInt8):Blk:=.opq (fun F g w=>BF F g l w) (fun _=>none)
def Bt(h:Hp)(i:Nat)(l:List UInt8):Prop:=h.b[i]?=some (bwt l)\/(l=[]/\h.b[i]?=some (.cells 142 [.nilp,.sl 0 .nil []]))
theorem BF.stable{F:Nat->Prop}{b:Nat}{l:List UInt8}{w w':World}(h:BF F b l w)(hs:∀g,F g->w'.heap[g]?=w.heap[g]?):BF F b l w':=by
 obtain⟨p,v,hp,hb,hown,hne,hF,hFk⟩:=h;refine⟨p,v,hp,(hs b hF).trans hb,⟨hown.1,?_⟩,hne,hF,hFk⟩;rcases hown.2 with h1|⟨g,cap,cur,fz,rfl,h2,h3,h4⟩
 ·exact .inl h1
 ·exact .inr ⟨g,cap,cur,fz,rfl,h2,(hs g (hFk g rfl)).trans h3,h4⟩
theorem Bt.lt{h:Hp}{i:Nat}{l:List UInt8}(hw:Bt h i l):i<h.b.length:=by
 rcases hw with h1|⟨_,h1⟩
 ·exact(Zc.1 h1).1
 ·exact(Zc.1 h1).1
theorem Bt.live{h:Hp}{i:Nat}{l:List UInt8}(hw:Bt h i l):∃b0:Blk,h.b[i]?=some b0/\b0.live=true:=by
 rcases hw with h1|⟨_,h1⟩<;>exact⟨_,h1,rfl⟩
theorem Bt.bf{h:Hp}{i:Nat}{l:List UInt8}{C:Ctx}{G:World->Prop}(hw:Bt h i l)(hI:Inv G C h):BF (fun g=>C.own g=some (C.lab i)) (C.κ i) l C.w:=by
 have hi:i<C.nb:=by rw[<-hI.nb];exact hw.lt
 rcases hw with h1|⟨rfl,h1⟩
 ·exact(hI.box i _ h1).1 C.w (fun _ _=>rfl) (Ze _)
 ·obtain⟨cs,k1,k2⟩:=hI.box i _ h1;obtain⟨c0,d0,rfl,e0,k2⟩:=repL_cons.1 k2;obtain⟨c1,d1,rfl,e1,k2⟩:=repL_cons.1 k2;rw[azm]at k2;subst k2;rw[azx]at e0;subst e0;obtain⟨a,cap,rfl,_,_,e3,e4,_⟩:=rep_sl.1 e1;subst e3;subst e4;exact⟨_,_,.inl rfl,k1,⟨rfl,.inl ⟨rfl,rfl⟩⟩,by simp[Value.ownBlock],hI.ok h1 rfl,fun k hk=>by simp[Value.ownBlock]at hk⟩
theorem cxf{C:Ctx}{i:Nat}{l:List UInt8}(h:BF (fun g=>C.own g=some (C.lab i)) (C.κ i) l C.w):BlkRep C i (bwt l):=by
 refine⟨fun w' hw _=>BF.stable h hw,fun o x hx=>?_⟩;cases hx
theorem avu{h:Hp}{i:Nat}{l:List UInt8}(hw:Bt h i l)(s:List UInt8)(hlen:l.length+s.length<=1000000000):
  AC 121 [.ptr i 0,.str s] h fun v h'=>v=.tup [.int .i64 s.length,.nili]/\h'=⟨h.b.set i (bwt (l++s)),h.t⟩:=by
 intro C es hI ha;obtain⟨c,es',rfl,h1,h2⟩:=repL_cons.1 ha;obtain⟨rfl,hi⟩:=rep_ptr.1 h1;obtain rfl:=ajp aqy C es' h2;refine(cxn (hw.bf hI) s hlen).mono ?_;rintro e w' ⟨rfl,m1,m2⟩;have hrep:BlkRep (C.turn w' i true) i (bwt (l++s)):=by
  refine cxf ?_;obtain⟨p,v,hp,hb,hown,hne,hF,hFk⟩:=m1;have hlt:=(aqt hb).2.2.2.2;have hcl:∀k,k<w'.heap.size->(C.own k=some (C.lab i)\/C.w.heap.size<=k)->(C.turn w' i true).own k=some (C.lab i):=fun k hk hor=>by
   show(if k<C.w.heap.size then C.own k else if true=true/\k<w'.heap.size then some (C.lab i)else none)=some (C.lab i)
   split
   ·rcases hor with h3|h3
    ·exact h3
    ·omega
   ·rw[if_pos ⟨rfl,hk⟩]
  refine⟨p,v,hp,hb,hown,hne,hcl _ hlt hF,fun k hk=>hcl k ?_ (hFk k hk)⟩;rcases hown.2 with⟨rfl,_⟩|⟨g,cap,cur,fz,rfl,_,h3,_⟩
  ·simp[Value.ownBlock]at hk
  ·simp only[Value.ownBlock,Zb]at hk;subst hk;exact(ZJ.1 h3).1
 obtain⟨i1,s1⟩:=aqe (b':=bwt (l++s)) true hI (hw.live).choose_spec.1 (hw.live).choose_spec.2 m2.os m2.tape m2.output m2.size (fun g hg hne=>m2.block g hg hne) (fun _=>hrep);exact⟨_,_,.tup [.int .i64 s.length,.nili],_,rfl,rfl,i1,s1,rep_tup.2 ⟨_,rfl,repL_cons.2 ⟨_,_,rfl,rep_int.2 rfl,repL_cons.2 ⟨_,_,rfl,bvs.2 rfl,azm.2 rfl⟩⟩⟩,rfl,rfl⟩
theorem bz2{h:Hp}{i:Nat}{l:List UInt8}(hw:Bt h i l)(h0:l≠[]):AC 97 [.ptr i 0] h fun v h'=>v=.str l/\h'=⟨h.b.set i dead,h.t⟩:=by
 intro C es hI ha;obtain⟨c,es',rfl,h1,h2⟩:=repL_cons.1 ha;obtain⟨rfl,hi⟩:=rep_ptr.1 h1;rw[azm]at h2;subst h2;refine(bwn (hw.bf hI) h0).mono ?_;rintro e w' ⟨rfl,m2⟩;obtain⟨i1,s1⟩:=aqe (b':=dead) false hI (hw.live).choose_spec.1 (hw.live).choose_spec.2 m2.os m2.tape m2.output m2.size (fun g hg hne=>m2.block g hg hne) (fun _=>⟨fun _ _ _=>trivial,fun o x hx=>by cases hx⟩);exact⟨_,_,.str l,_,rfl,rfl,i1,s1,rep_str.2 rfl,rfl,rfl⟩
end AX
end
end Go.Proofs.YtnffmgmidghfhaaGreatDoor
