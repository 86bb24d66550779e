/- Part of what the proof needs. -/
import Derived.Test.YtnjkemakcejceaaGreatDoorMFrStoreVersionsUptoR
set_option linter.unusedSimpArgs false
set_option linter.unusedVariables false
set_option linter.unnecessarySimpa false
namespace Go.Proofs.YtnjkemakcejceaaGreatDoor
open Go.RowKit
set_option maxHeartbeats 4000000
namespace AX
open Sto
def stC5 (s : Sf.St) : List A:=[.str s.lin,.int .i64 s.ser,.sl 13 .no (s.insts.map Sf.Inst.cells),.sl 3 .no (s.pends.map Sf.Pend.cells),.sl 7 .no (s.outs.map Sf.Outp.cells)]
structure LeftOk (s : Sto) : Prop where
 lo : 0 ≤ s.left
 hi : s.left ≤ 1099511627776
theorem LeftOk.lock {s : Sto} (h : LeftOk s) (who : List UInt8) (n : Int) : LeftOk (s.lock who n).1 ∧ (s.lock who n).1.lin = s.lin ∧ ((s.lock who n).2 ≠ 0 ∨ s.own = [] ∨ s.own = who):=by
 unfold Sto.lock
 split
 ·exact ⟨h,rfl,.inl (by show (1 : Int) ≠ 0; decide)⟩
 ·next h1 =>
  split
  ·exact ⟨h,rfl,.inl (by show (24 : Int) ≠ 0; decide)⟩
  ·next h2 =>
   rw [Bool.not_eq_false,Bool.and_eq_true,Bool.and_eq_true,decide_eq_true_eq,decide_eq_true_eq] at h1
   refine ⟨⟨by show 0 ≤ n; omega,by show n ≤ _; omega⟩,rfl,.inr ?_⟩
   by_cases e : s.own = []
   ·exact .inl e
   ·right
    by_cases e2 : s.own = who
    ·exact e2
    ·exact absurd (by simp [e,e2]) h2
theorem LeftOk.unlock {s : Sto} (h : LeftOk s) (who : List UInt8) : LeftOk (s.unlock who).1 ∧ (s.unlock who).1.lin = s.lin:=by
 unfold Sto.unlock
 split
 ·exact ⟨h,rfl⟩
 ·exact ⟨⟨Int.le_refl _,by show (0 : Int) ≤ _; decide⟩,rfl⟩
theorem LeftOk.brk {s : Sto} (h : LeftOk s) : LeftOk s.brk ∧ s.brk.lin = s.lin:=by
 unfold Sto.brk
 split
 ·exact ⟨h,rfl⟩
 ·exact ⟨⟨Int.le_refl _,by show (0 : Int) ≤ _; decide⟩,rfl⟩
theorem LeftOk.tick {s : Sto} (h : LeftOk s) (n : Int) : LeftOk (s.tick n) ∧ (s.tick n).lin = s.lin:=by
 have:=h.lo
 have:=h.hi
 have hd : ¬ (n ≤ 0 ∨ s.own = []) → 0 ≤ (if s.left < n then s.left else n) ∧ (if s.left < n then s.left else n) ≤ s.left:=fun hn => by
  split <;> omega
 unfold Sto.tick
 generalize (if s.left < n then s.left else n) = d at hd ⊢
 split
 ·exact ⟨h,rfl⟩
 ·next hn =>
  have:=hd hn
  split
  ·exact ⟨⟨Int.le_refl _,by show (0 : Int) ≤ _; decide⟩,rfl⟩
  ·exact ⟨⟨by show 0 ≤ s.left - d; omega,by show s.left - d ≤ _; omega⟩,rfl⟩
theorem to_fit (a : Act) (lin : List UInt8) (ser : Int) (hw : a.st.Wf) (hb : a.st.toD.bulk ≤ 1048576) (hl : lin.length ≤ 100) (hs : -9223372036854775808 ≤ ser ∧ ser ≤ 9223372036854775807) : Sf.Fit (a.to lin ser):=by
 unfold Act.to
 split
 ·refine Sf.fit_of ⟨hw.insts,hw.outs,?_⟩ ?_
  ·show (Lit.int .i64 ser).wf = true
   unfold Lit.wf
   rw [Bool.and_eq_true,decide_eq_true_eq,decide_eq_true_eq]
   exact hs
  ·show (Sf.St.toD { a.st with lin:=lin,ser:=ser }).bulk ≤ _
   unfold Sf.St.toD at hb ⊢
   simp only [D.bulk,D.bulks] at hb ⊢
   omega
 ·exact Sf.fit_of hw (Nat.le_trans hb (by decide))
def w0 (lin : List UInt8) : Sf.St:=⟨lin,0,[],[],[]⟩
def Rw (lin : List UInt8) (ws : List Sf.St) : List (List A):=[.str lin,.int .i64 0,.sl 0 .nil [],.sl 0 .nil [],.sl 0 .nil []] :: ws.map stC5
theorem Rw_len (lin : List UInt8) (ws : List Sf.St) : (Rw lin ws).length = ws.length + 1:=by simp [Rw]
theorem Rw_snoc (lin : List UInt8) (ws : List Sf.St) (st : Sf.St) : Rw lin (ws ++ [st]) = Rw lin ws ++ [stC5 st]:=by simp [Rw]
theorem Rw_get (lin : List UInt8) (ws : List Sf.St) (j : Nat) (h : j < (w0 lin :: ws).length) : ∃ x1 x2 x3 x4 x5,(Rw lin ws).getD j [] = [x1,x2,x3,x4,x5] ∧ le2 (.agg [x1,x2,x3,x4,x5]) (w0 lin :: ws)[j].A:=by
 cases j with
 | zero => exact ⟨_,_,_,_,_,rfl,⟨le1_refl _,le1_refl _,⟨rfl,.inr rfl,.inl rfl⟩,⟨rfl,.inr rfl,.inl rfl⟩,⟨rfl,.inr rfl,.inl rfl⟩,trivial⟩⟩
 | succ j =>
  have hj : j < ws.length:=by simpa using h
  refine ⟨.str ws[j].lin,.int .i64 ws[j].ser,.sl 13 .no (ws[j].insts.map Sf.Inst.cells),.sl 3 .no (ws[j].pends.map Sf.Pend.cells),.sl 7 .no (ws[j].outs.map Sf.Outp.cells),?_,le2_refl ws[j].A⟩
  show (ws.map stC5).getD j [] = _
  rw [map_getD stC5 ws j hj]
  rfl
structure VI (l : List Act) (lin : List UInt8) (i : Nat) (s : Sto) (ws : List Sf.St) (t : List (TypeId × Nat × Nat)) (k : Nat) : Prop where
 le : i ≤ l.length
 vs : Vs s (w0 lin :: ws)
 wl : ws.length ≤ i
 slin : s.lin = lin
 left : LeftOk s
 gs : Gs 26 5 0 ⟨[],t⟩ (Rw lin ws) (.sl 5 (.tok k) (Rw lin ws))
 sin : ∀ st ∈ ws,Sf.StIn st
theorem VI.step {l : List Act} {lin : List UInt8} {i : Nat} {s s' : Sto} {ws : List Sf.St} {t : List (TypeId × Nat × Nat)} {k : Nat} (v : VI l lin i s ws t k) (hi : i < l.length) (h1 : Vs s' (w0 lin :: ws)) (h2 : s'.lin = s.lin) (h3 : LeftOk s') : VI l lin (i + 1) s' ws t k:=
 ⟨hi,h1,Nat.le_succ_of_le v.wl,h2.trans v.slin,h3,v.gs,v.sin⟩
def c_versions34 : AX.AFn:=⟨241,.seq (.reg false [aR 6 (.mv (.c (.bool false)))]) (.seq (.seq (.reg false [aM 21 0,aR 22 (.len true (.t 21)),aR 23 (.bin .gtr (.t 22) (aI 100)),aM 24 23,aG 25 (.mv (.t 1)) 24 false,aG 26 (.len true (.t 25)) 24 false,aG 27 (.bin .gtr (.t 26) (aI 100)) 24 false,aR 28 (.pick (.t 24) (.c (.bool true)) (.t 27)),aM 29 28,aG 30 (.mv (.t 2)) 29 false,aG 31 (.call 14 [.t 30]) 29 false,aG 32 (.un .not (.t 31)) 29 false,aR 33 (.pick (.t 29) (.c (.bool true)) (.t 32))]) (.cond (.t 33) (.seq (.reg false [aR 34 (.call 15 []),aM 6 34]) (.ret)) (.skip))) (.seq (.reg false [aM 36 0,aM 37 1,aR 38 (.call 16 [.t 36,.t 37]),aM 35 38,aR 39 (.extract (.t 35) 0),aR 40 (.extract (.t 35) 1),aM 7 39,aM 8 40]) (.seq (.seq (.reg false [aM 41 8,aR 42 (.bin .neq (.t 41) (aI 0)),aM 43 42,aG 44 (.mv (.t 7)) 43 false,aG 45 (.eq 1 [] false (.t 44) (.c (.nilp))) 43 false,aR 46 (.pick (.t 43) (.c (.bool true)) (.t 45))]) (.cond (.t 46) (.seq (.reg false [aM 47 8,aR 48 (.bin .neq (.t 47) (aI 0)),aM 49 48,aG 50 (.mv (.t 7)) 49 true,aG 51 (.eq 1 [] false (.t 50) (.c (.nilp))) 49 true,aR 52 (.pick (.t 49) (.t 51) (.c (.bool false))),aM 53 52,aG 54 (.call 15 []) 53 true,aR 55 (.pick (.t 53) (.t 54) (.c (.bool false))),aM 6 55]) (.ret)) (.skip))) (.seq (.reg false [aM 56 1,aR 57 (.build [.str [],.int .i64 0,.sl 0 .nil [],.sl 0 .nil [],.sl 0 .nil []] [(0,1,.t 56)]),aR 58 (.mkl 26 5 [.t 57]),aM 9 58]) (.seq (.seq (.reg false [aR 10 (.mv (aI 0))]) (.block 0 (.loop (.seq (.seq (.reg false [aM 59 10,aM 60 2,aR 61 (.len false (.t 60)),aR 62 (.bin .lss (.t 59) (.t 61))]) (.cond (.t 62) (.skip) (.exit 0))) (.seq (.block 1 (.seq (.reg false [aM 65 2,aM 66 10,aR 67 (.iaddr 10 (.t 65) (.t 66)),aR 68 (.load true 10 (.t 67)),aR 11 (.alloc 58 [.int .i64 0,.str [],.int .i64 0,.str [],.int .i64 0,.sl 0 .nil [],.sl 0 .nil [],.sl 0 .nil [],.bool false,.str []]),aU (.store 10 (.t 11) (.t 68))]) (.seq (.reg false [aM 70 7,aR 71 (.call 35 [.t 70]),aM 69 71,aR 72 (.extract (.t 69) 0),aR 73 (.extract (.t 69) 1),aM 12 72,aM 13 73]) (.seq (.reg false [aR 74 (.faddr 0 (.t 11)),aR 75 (.load false 1 (.t 74))]) (.block 2 (.seq (.reg false [aR 77 (.bin .eql (.t 75) (aI 0)),aM 76 77]) (.cond (.t 76) (.seq (.reg false [aM 78 7,aR 79 (.faddr 1 (.t 11)),aR 80 (.load false 1 (.t 79)),aR 81 (.faddr 2 (.t 11)),aR 82 (.load false 1 (.t 81)),aR 83 (.call 18 [.t 78,.t 80,.t 82]),aR 84 (.bin .eql (.t 83) (aI 0)),aM 85 84,aG 86 (.mv (.t 12)) 85 true,aG 87 (.bin .neq (.t 86) (.c (.str []))) 85 true,aR 88 (.pick (.t 85) (.t 87) (.c (.bool false))),aM 89 88,aG 90 (.mv (.t 12)) 89 true,aG 91 (.faddr 1 (.t 11)) 89 true,aG 92 (.load false 1 (.t 91)) 89 true,aG 93 (.bin .neq (.t 90) (.t 92)) 89 true,aR 94 (.pick (.t 89) (.t 93) (.c (.bool false)))]) (.cond (.t 94) (.seq (.reg false [aR 6 (.mv (.c (.bool false)))]) (.ret)) (.skip))) (.seq (.reg false [aR 96 (.bin .eql (.t 75) (aI 1)),aM 95 96]) (.cond (.t 95) (.seq (.reg false [aM 97 7,aR 98 (.faddr 1 (.t 11)),aR 99 (.load false 1 (.t 98)),aR 100 (.call 20 [.t 97,.t 99]),aR 101 (.bin .eql (.t 100) (aI 0)),aM 102 12,aR 103 (.bin .neq (.t 102) (.c (.str []))),aM 104 103,aG 105 (.mv (.t 12)) 104 true,aG 106 (.faddr 1 (.t 11)) 104 true,aG 107 (.load false 1 (.t 106)) 104 true,aG 108 (.bin .eql (.t 105) (.t 107)) 104 true,aR 109 (.pick (.t 104) (.t 108) (.c (.bool false))),aR 110 (.eq 0 [] true (.t 101) (.t 109))]) (.cond (.t 110) (.seq (.reg false [aR 6 (.mv (.c (.bool false)))]) (.ret)) (.skip))) (.seq (.reg false [aR 112 (.bin .eql (.t 75) (aI 2)),aM 111 112]) (.cond (.t 111) (.reg false [aM 113 7,aR 114 (.call 23 [.t 113])]) (.seq (.reg false [aR 116 (.bin .eql (.t 75) (aI 3)),aM 115 116]) (.cond (.t 115) (.reg false [aM 117 7,aR 118 (.faddr 2 (.t 11)),aR 119 (.load false 1 (.t 118)),aR 120 (.call 24 [.t 117,.t 119])]) (.seq (.reg false [aR 122 (.bin .eql (.t 75) (aI 4)),aM 121 122]) (.cond (.t 121) (.seq (.reg false [aR 123 (.load true 10 (.t 11)),aM 124 1,aM 125 9,aR 126 (.len false (.t 125)),aR 127 (.call 26 [.t 123,.t 124,.t 126]),aR 14 (.alloc 26 [.str [],.int .i64 0,.sl 0 .nil [],.sl 0 .nil [],.sl 0 .nil []]),aU (.store 5 (.t 14) (.t 127))]) (.seq (.reg false [aM 128 7,aR 129 (.faddr 1 (.t 11)),aR 130 (.load false 1 (.t 129)),aR 131 (.load true 5 (.t 14)),aR 132 (.call 28 [.t 128,.t 130,.t 131]),aM 15 132]) (.seq (.seq (.reg false [aM 133 15,aR 134 (.bin .eql (.t 133) (aI 0)),aM 135 134,aG 136 (.mv (.t 12)) 135 true,aG 137 (.bin .eql (.t 136) (.c (.str []))) 135 true,aG 138 (.mv (.t 137)) 135 true,aG 139 (.mv (.t 12)) 138 false,aG 140 (.faddr 1 (.t 11)) 138 false,aG 141 (.load false 1 (.t 140)) 138 false,aG 142 (.bin .neq (.t 139) (.t 141)) 138 false,aG 143 (.pick (.t 138) (.c (.bool true)) (.t 142)) 135 true,aG 144 (.mv (.t 143)) 135 true,aG 145 (.faddr 1 (.t 14)) 144 false,aG 146 (.load false 1 (.t 145)) 144 false,aG 147 (.mv (.t 9)) 144 false,aG 148 (.len false (.t 147)) 144 false,aG 149 (.bin .neq (.t 146) (.t 148)) 144 false,aG 150 (.pick (.t 144) (.c (.bool true)) (.t 149)) 135 true,aG 151 (.mv (.t 150)) 135 true,aG 152 (.faddr 0 (.t 14)) 151 false,aG 153 (.load false 1 (.t 152)) 151 false,aG 154 (.mv (.t 1)) 151 false,aG 155 (.bin .neq (.t 153) (.t 154)) 151 false,aG 156 (.pick (.t 151) (.c (.bool true)) (.t 155)) 135 true,aR 157 (.pick (.t 135) (.t 156) (.c (.bool false)))]) (.cond (.t 157) (.seq (.reg false [aR 6 (.mv (.c (.bool false)))]) (.ret)) (.skip))) (.seq (.reg false [aM 158 15,aR 159 (.bin .eql (.t 158) (aI 0))]) (.cond (.t 159) (.reg false [aM 160 9,aR 161 (.load true 5 (.t 14)),aR 162 (.mks 5 [.t 161]),aR 163 (.app 26 5 96 (.t 160) (.t 162)),aM 9 163]) (.skip)))))) (.seq (.reg false [aR 165 (.bin .eql (.t 75) (aI 5)),aM 164 165]) (.cond (.t 164) (.seq (.reg false [aM 166 7,aR 167 (.faddr 1 (.t 11)),aR 168 (.load false 1 (.t 167)),aR 169 (.faddr 9 (.t 11)),aR 170 (.load false 1 (.t 169)),aR 171 (.call 30 [.t 166,.t 168,.t 170]),aR 172 (.bin .eql (.t 171) (aI 0)),aM 173 172,aG 174 (.mv (.t 12)) 173 true,aG 175 (.bin .eql (.t 174) (.c (.str []))) 173 true,aG 176 (.mv (.t 175)) 173 true,aG 177 (.mv (.t 12)) 176 false,aG 178 (.faddr 1 (.t 11)) 176 false,aG 179 (.load false 1 (.t 178)) 176 false,aG 180 (.bin .neq (.t 177) (.t 179)) 176 false,aG 181 (.pick (.t 176) (.c (.bool true)) (.t 180)) 173 true,aR 182 (.pick (.t 173) (.t 181) (.c (.bool false)))]) (.cond (.t 182) (.seq (.reg false [aR 6 (.mv (.c (.bool false)))]) (.ret)) (.skip))) (.skip)))))))))))))))))) (.reg false [aM 63 10,aR 64 (.bin .add (.t 63) (aI 1)),aM 10 64])))))) (.seq (.seq (.reg false [aM 183 7,aR 184 (.call 37 [.t 183]),aR 185 (.len false (.t 184)),aM 186 9,aR 187 (.len false (.t 186)),aR 188 (.bin .neq (.t 185) (.t 187))]) (.cond (.t 188) (.seq (.reg false [aR 6 (.mv (.c (.bool false)))]) (.ret)) (.skip))) (.seq (.seq (.reg false [aR 16 (.mv (aI 0))]) (.block 3 (.loop (.seq (.seq (.reg false [aM 189 16,aM 190 9,aR 191 (.len false (.t 190)),aR 192 (.bin .lss (.t 189) (.t 191))]) (.cond (.t 192) (.skip) (.exit 3))) (.seq (.block 4 (.seq (.reg false [aM 196 7,aM 197 16,aR 198 (.call 33 [.t 196,.t 197]),aM 195 198,aR 199 (.extract (.t 195) 0),aR 200 (.extract (.t 195) 1),aR 17 (.alloc 26 [.str [],.int .i64 0,.sl 0 .nil [],.sl 0 .nil [],.sl 0 .nil []]),aU (.store 5 (.t 17) (.t 199)),aM 18 200]) (.seq (.reg true [aM 201 18,⟨some 202,.bin .neq (.t 201) (aI 0),none,[0]⟩,⟨some 203,.mv (.t 202),none,[1]⟩,⟨some 204,.load true 5 (.t 17),some (203,false),[2]⟩,⟨some 205,.mv (.t 9),some (203,false),[2]⟩,⟨some 206,.mv (.t 16),some (203,false),[2]⟩,⟨some 207,.iaddr 5 (.t 205) (.t 206),some (203,false),[4,5,2]⟩,⟨some 208,.load true 5 (.t 207),some (203,false),[6,2]⟩,⟨some 209,.call 13 [.t 204,.t 208],some (203,false),[3,7,2,2]⟩,⟨some 210,.un .not (.t 209),some (203,false),[8,2]⟩,⟨some 211,.pick (.t 203) (.c (.bool true)) (.t 210),none,[2,9]⟩,⟨some 212,.mv (.t 211),none,[10,8]⟩,⟨some 213,.mv (.t 7),some (212,false),[11]⟩,⟨some 214,.call 37 [.t 213],some (212,false),[12,11,11]⟩,⟨some 215,.mv (.t 16),some (212,false),[11]⟩,⟨some 216,.iaddr 1 (.t 214) (.t 215),some (212,false),[13,14,11]⟩,⟨some 217,.load false 1 (.t 216),some (212,false),[15,11]⟩,⟨some 218,.mv (.t 16),some (212,false),[11]⟩,⟨some 219,.bin .neq (.t 217) (.t 218),some (212,false),[16,17,11]⟩,⟨some 220,.pick (.t 212) (.c (.bool true)) (.t 219),none,[11,18]⟩]) (.cond (.t 220) (.seq (.reg false [aR 6 (.mv (.c (.bool false)))]) (.ret)) (.skip))))) (.reg false [aM 193 16,aR 194 (.bin .add (.t 193) (aI 1)),aM 16 194])))))) (.seq (.reg false [aM 222 7,aR 223 (.call 36 [.t 222]),aM 221 223,aR 224 (.extract (.t 221) 0),aR 225 (.extract (.t 221) 1),aR 19 (.alloc 26 [.str [],.int .i64 0,.sl 0 .nil [],.sl 0 .nil [],.sl 0 .nil []]),aU (.store 5 (.t 19) (.t 224)),aM 20 225]) (.seq (.reg true [aM 226 20,⟨some 227,.bin .eql (.t 226) (aI 0),none,[0]⟩,⟨some 228,.mv (.t 227),none,[1]⟩,⟨some 229,.load true 5 (.t 19),some (228,true),[2]⟩,⟨some 230,.mv (.t 9),some (228,true),[2]⟩,⟨some 231,.mv (.t 9),some (228,true),[2]⟩,⟨some 232,.len false (.t 231),some (228,true),[5,2]⟩,⟨some 233,.bin .sub (.t 232) (aI 1),some (228,true),[6,2]⟩,⟨some 234,.iaddr 5 (.t 230) (.t 233),some (228,true),[4,7,2]⟩,⟨some 235,.load true 5 (.t 234),some (228,true),[8,2]⟩,⟨some 236,.call 13 [.t 229,.t 235],some (228,true),[3,9,2,2]⟩,⟨some 237,.pick (.t 228) (.t 236) (.c (.bool false)),none,[2,10]⟩,⟨some 238,.mv (.t 237),none,[11,10]⟩,⟨some 239,.call 15 [],some (238,true),[12,12]⟩,⟨some 240,.pick (.t 238) (.t 239) (.c (.bool false)),none,[12,13]⟩,⟨some 6,.mv (.t 240),none,[14,13,0,1,2,3,4,5,6,7,8,9,10,11,12,13,14]⟩]) (.ret)))))))))),[.t 6]⟩
theorem h_versions34 : AX.compFn Tryz.prog 6 = some c_versions34:=by kernel_rfl
theorem newE_ok {key lin : List UInt8} (h : newE key lin = 0) : Seal.check key = 0 ∧ (newK key lin).2 = 0 ∧ newH key lin = [(newK key lin).1.M,(newK key lin).1.B]:=by
 unfold newE at h
 unfold newH
 by_cases h1 : Seal.check key ≠ 0
 ·rw [if_pos h1] at h; exact absurd h h1
 ·rw [if_neg h1] at h ⊢
  by_cases h2 : txt lin = false
  ·rw [if_pos h2] at h; cases h
  ·rw [if_neg h2] at h ⊢
   exact ⟨by simpa using h1,h,rfl⟩
theorem w_versions (key lin : List UInt8) (l : List Act) (hw : ∀ a ∈ l,a.st.Wf ∧ a.st.toD.bulk ≤ 1048576) (hl : l.length ≤ 1000000000) :
  ACall Tryz.prog GT 6 [.str key,.str lin,.sl 10 .no (l.map Act.cells)] ⟨[],[]⟩ fun r _ => r = .bool true:=by
 have hfit : ∀ a ∈ l,Sf.Fit a.st:=fun a ha => Sf.fit_of (hw a ha).1 (Nat.le_trans (hw a ha).2 (by decide))
 have hfew:=a_few34 l (fun a ha => (hfit a ha).sin) hl
 have aw:=awake34
 refine acall_of mixedT h_versions34 (by simp [c_versions34]) ?_
 dsimp only [c_versions34]
 by_cases k1 : (key.length : Int) > 100
 ·refine runc0 k1 (ai aw ti) ?_
  exact ⟨_,le_refl _,rfl⟩
 by_cases k2 : (lin.length : Int) > 100
 ·refine runc0 (ai k1 k2) (ai aw ti) ?_
  exact ⟨_,le_refl _,rfl⟩
 obtain ⟨fw,hfw⟩ : ∃ b,fewB l = b:=⟨_,rfl⟩
 rw [hfw] at hfew
 cases fw
 ·refine runc0 (ai k1 k2) (ai hfew (ai aw ti)) ?_
  exact ⟨_,le_refl _,rfl⟩
 unfold fewB at hfw
 rw [Bool.and_eq_true,decide_eq_true_eq] at hfw
 obtain ⟨hall,hl30⟩:=hfw
 have hkl : ∀ a ∈ l,a.who.length ≤ 100 ∧ a.key.length ≤ 100:=fun a ha => by
  have:=List.all_eq_true.1 hall a (by rw [List.take_of_length_le hl30]; exact ha)
  unfold Act.ok at this
  simp only [Bool.and_eq_true,decide_eq_true_eq] at this
  exact this.2
 have hw0 : Sf.Fit (w0 lin):=to_fit ⟨0,[],0,w0 lin,true,[]⟩ lin 0 ⟨by simp [w0],by simp [w0],by rfl⟩ (by unfold w0 Sf.St.toD; simp only [List.map_nil,D.bulk,D.bulks]; omega) (by omega) ⟨by decide,by decide⟩
 have hnew:=a_newE key lin (by omega) (by omega) (hw0.len 2)
 by_cases e0 : newE key lin = 0
 rotate_left
 ·rw [if_neg e0] at hnew
  obtain ⟨Z,hZ⟩ : ∃ Z,newE key lin = Z:=⟨_,rfl⟩
  rw [hZ] at hnew e0
  have e1 : (Z != 0) = true:=by simp [e0]
  refine runc0 (ai k1 (ai k2 e1)) (ai hfew (ai hnew (ai aw ti))) ?_
  exact ⟨_,le_refl _,rfl⟩
 rw [if_pos e0,e0] at hnew
 obtain ⟨hck,hkz,hnH⟩:=newE_ok e0
 have hv0 : Vs (newK key lin).1 (w0 lin :: []):=keep_vs (s:=Sto.new key lin) (wr:=[]) (w0 lin) hck rfl (by decide) (fun n h => absurd h (by simp)) (fun n b h => by cases h) hw0.sin hw0.tin hkz
 have hs0 : (newK key lin).1.lin = lin ∧ (newK key lin).1.left = 0:=by
  unfold newK Sto.keep
  split
  ·exact ⟨rfl,rfl⟩
  ·split <;> exact ⟨rfl,rfl⟩
 rw [hnH] at hnew
 obtain ⟨s0,hs⟩ : ∃ s0,(newK key lin).1 = s0:=⟨_,rfl⟩
 rw [hs] at hv0 hs0 hnew
 refine runc0 (ai k1 k2) (ai hfew (ai hnew ti)) ?_
 refine awp_loop (fun m ts h => ∃ (i : Nat) (s : Sto) (ws : List Sf.St) (l' : List Blk) (t : List (TypeId × Nat × Nat)) (k : Nat),m = l.length - i ∧ h = ⟨s.M :: s.B :: l',t⟩ ∧ VI l lin i s ws t k ∧
  (ts 1 = .str lin ∧ ts 2 = .sl 10 .no (l.map Act.cells) ∧ ts 7 = .ptr 1 0 ∧ ts 9 = .sl 5 (.tok k) (Rw lin ws) ∧ ts 10 = .int .i64 (i : Nat))) l.length ?_ ?_
 ·exact ⟨0,s0,[],[],[(26,5,1)],0,rfl,rfl,⟨Nat.zero_le _,hv0,Nat.zero_le _,hs0.1,⟨by rw [hs0.2]; decide,by rw [hs0.2]; decide⟩,.inr ⟨0,Nat.le_refl _,rfl,rfl⟩,by simp⟩,by (exact inv0 ti)⟩
 rintro m ts h ⟨i,s,ws,l',t,k,rfl,rfl,v,ht⟩
 rcases Nat.lt_or_ge i l.length with hlt | hge
 ·have hf:=row_at Act.cells l i hlt (by omega)
  have hwi:=hw _ (List.getElem_mem hlt)
  have hki:=hkl _ (List.getElem_mem hlt)
  obtain ⟨a,ha⟩ : ∃ a,l[i] = a:=⟨_,rfl⟩
  rw [ha] at hf hwi hki
  have hto:=to_fit a lin (ws.length + 1 : Nat) hwi.1 hwi.2 (by omega) (by have:=v.wl; omega)
  have cN:=a_next34 a lin (ws.length + 1 : Nat)
  have hwl : (w0 lin :: ws).length < 60:=by have:=v.wl; simp only [List.length_cons]; omega
  have cH:=fun l t => a_holder s l t
  obtain ⟨kd,who,n,st,nx,q⟩:=a
  simp only [Act.cells] at hf cN
  obtain ⟨kw,kq⟩:=hki
  dsimp only at kw kq
  by_cases q0 : kd = 0
  ·subst q0
   have c:=fun l t => a_lock s l t who (by omega) n
   have hV:=v.vs.lock who n
   obtain ⟨hL,hlin,hcs⟩:=v.left.lock who n
   obtain ⟨⟨s',e⟩,hse⟩ : ∃ r,s.lock who n = r:=⟨_,rfl⟩
   rw [hse] at c hV hL hlin hcs
   dsimp only at c hV hL hlin hcs
   by_cases e0 : e = 0
   ·subst e0
    by_cases o1 : s.own = []
    ·rw [o1] at cH
     refine runc0 (ai ht hf) (ai cH (ai c ti)) ?_
     exact ⟨_,by omega,i + 1,s',ws,_,_,k,rfl,rfl,v.step hlt hV hlin hL,by (exact inv0 (ai ht hf))⟩
    ·have o2 : s.own = who:=by
      rcases hcs with h | h | h
      ·exact absurd rfl h
      ·exact absurd h o1
      ·exact h
     have o3 : (who != []) = true:=by rw [← o2]; simp [o1]
     rw [o2] at cH
     refine runc0 (ai ht (ai hf o3)) (ai cH (ai c ti)) ?_
     exact ⟨_,by omega,i + 1,s',ws,_,_,k,rfl,rfl,v.step hlt hV hlin hL,by (exact inv0 (ai ht hf))⟩
   ·have e1 : (e == 0) = false:=by simp [e0]
    refine runc0 (ai ht (ai hf e1)) (ai cH (ai c ti)) ?_
    exact ⟨_,by omega,i + 1,s',ws,_,_,k,rfl,rfl,v.step hlt hV hlin hL,by (exact inv0 (ai ht hf))⟩
  by_cases q1 : kd = 1
  ·subst q1
   have c:=fun l t => a_unlock s l t who
   have hV:=v.vs.unlock who
   obtain ⟨hL,hlin⟩:=v.left.unlock who
   obtain ⟨s',hse⟩ : ∃ r,(s.unlock who).1 = r:=⟨_,rfl⟩
   rw [hse] at hV hL hlin
   have hu : (s.unlock who).2 = if s.holds who = false then 25 else 0:=by unfold Sto.unlock; split <;> rfl
   simp only [hse,hu] at c
   unfold Sto.holds at c
   by_cases o1 : s.own = []
   ·have o2 : (s.own != [] && s.own == who) = false:=by simp [o1]
    rw [o1] at cH
    simp only [o2,if_pos] at c
    have e25 : ((25 : Int) == 0) = false:=rfl
    refine runc0 (ai ht hf) (ai cH (ai c ti)) ?_
    exact ⟨_,by omega,i + 1,s',ws,_,_,k,rfl,rfl,v.step hlt hV hlin hL,by (exact inv0 (ai ht hf))⟩
   ·have o2 : (s.own != []) = true:=by simp [o1]
    by_cases o3 : s.own = who
    ·have o4 : (s.own == who) = true:=by simp [o3]
     simp only [o2,o4,Bool.and_true,Bool.true_eq_false,if_false] at c
     refine runc0 (ai ht (ai hf (ai o2 o4))) (ai cH (ai c ti)) ?_
     exact ⟨_,by omega,i + 1,s',ws,_,_,k,rfl,rfl,v.step hlt hV hlin hL,by (exact inv0 (ai ht hf))⟩
    ·have o4 : (s.own == who) = false:=by simp [o3]
     simp only [o2,o4,Bool.and_false,if_true] at c
     refine runc0 (ai ht (ai hf (ai o2 o4))) (ai cH (ai c ti)) ?_
     exact ⟨_,by omega,i + 1,s',ws,_,_,k,rfl,rfl,v.step hlt hV hlin hL,by (exact inv0 (ai ht hf))⟩
  by_cases q2 : kd = 2
  ·subst q2
   have c:=fun l t => a_break s l t
   have hV:=v.vs.brk
   obtain ⟨hL,hlin⟩:=v.left.brk
   refine runc0 (ai ht hf) (ai cH (ai c ti)) ?_
   exact ⟨_,by omega,i + 1,s.brk,ws,_,_,k,rfl,rfl,v.step hlt hV hlin hL,by (exact inv0 (ai ht hf))⟩
  by_cases q3 : kd = 3
  ·subst q3
   have c:=fun l t => a_tick s l t n v.left.lo v.left.hi
   have hV:=v.vs.tick n
   obtain ⟨hL,hlin⟩:=v.left.tick n
   refine runc0 (ai ht hf) (ai cH (ai c ti)) ?_
   exact ⟨_,by omega,i + 1,s.tick n,ws,_,_,k,rfl,rfl,v.step hlt hV hlin hL,by (exact inv0 (ai ht hf))⟩
  have lR : ((Rw lin ws).length : Int) = ((ws.length + 1 : Nat) : Int):=by rw [Rw_len]
  by_cases q4 : kd = 4
  ·subst q4
   obtain ⟨st',hst⟩ : ∃ st',Act.to ⟨4,who,n,st,nx,q⟩ lin (ws.length + 1 : Nat) = st':=⟨_,rfl⟩
   rw [hst] at cN hto
   have c:=fun l t => a_swrite s l t who st' hto.sin v.vs.keyLen (hto.len 2)
   have hW:=v.vs.write hwl who st' hto.sin hto.tin
   obtain ⟨⟨s',e⟩,hse⟩ : ∃ r,s.write who st' = r:=⟨_,rfl⟩
   rw [hse] at c hW
   dsimp only at c hW
   have hA : st'.A = .agg [.str st'.lin,.int .i64 st'.ser,.sl 13 .no (st'.insts.map Sf.Inst.cells),.sl 3 .no (st'.pends.map Sf.Pend.cells),.sl 7 .no (st'.outs.map Sf.Outp.cells)]:=rfl
   rw [hA] at cN c
   rcases hW with ⟨e0,rfl⟩ | ⟨rfl,hh,hln,hsr,hV,hlin,hown,hleft⟩
   ·have e1 : (e == 0) = false:=by simp [e0]
    refine runc0 (ai ht (ai hf (ai lR e1))) (ai cH (ai cN (ai c ti))) ?_
    exact ⟨_,by omega,i + 1,s',ws,_,_,k,rfl,rfl,v.step hlt v.vs rfl v.left,by (exact inv0 (ai ht hf))⟩
   ·unfold Sto.holds at hh
    rw [Bool.and_eq_true,beq_iff_eq] at hh
    have o1 : (who == []) = false:=by
     have:=hh.1
     rw [hh.2] at this
     simpa using this
    rw [hh.2] at cH
    have o2 : (st'.ser != ((ws.length + 1 : Nat) : Int)) = false:=by rw [hsr,List.length_cons]; simp
    have o3 : (st'.lin != lin) = false:=by rw [hln,v.slin]; simp
    obtain ⟨W',o',t',hX,gX',_⟩:=v.gs.grow 96 (stC5 st') (by rw [Rw_len]; have:=v.wl; omega) (by decide)
    rw [← Rw_snoc] at gX'
    simp only [← Rw_snoc] at hX
    obtain ⟨k',rfl,rfl⟩ : ∃ k',W' = 5 ∧ o' = .tok k':=by
     rcases gX' with ⟨h,_⟩ | ⟨k',_,h,_⟩
     ·simp [Rw] at h
     ·injection h with h1 h2 h3
      exact ⟨k',h1,h2⟩
    unfold stC5 at hX
    refine runc0 (ai ht (ai hf (ai lR (ai o1 (ai o2 (ai o3 hX)))))) (ai cH (ai cN (ai c ti))) ?_
    exact ⟨_,by omega,i + 1,s',ws ++ [st'],_,_,k',rfl,rfl,⟨hlt,hV,by rw [List.length_append]; have:=v.wl; simp; omega,hlin.trans v.slin,⟨by rw [hleft]; exact v.left.lo,by rw [hleft]; exact v.left.hi⟩,gX',fun x hx => by
     rcases List.mem_append.1 hx with hx | hx
     ·exact v.sin x hx
     ·rw [List.mem_singleton.1 hx]; exact hto.sin⟩,by (exact inv0 (ai ht hf))⟩
  have n0 : (kd == 0) = false:=by simp [q0]
  have n1 : (kd == 1) = false:=by simp [q1]
  have n2 : (kd == 2) = false:=by simp [q2]
  have n3 : (kd == 3) = false:=by simp [q3]
  have n4 : (kd == 4) = false:=by simp [q4]
  by_cases q5 : kd = 5
  ·refine runc0 (ai ht (ai hf (ai n0 (ai n1 (ai n2 (ai n3 n4)))))) (ai cH ti) ?_
   (refine AX.alt0 ht ?_ ?_)
   rotate_left
   ·intro e; exact absurd e (by simp [q5])
   intro _
   refine go0 (ai ht hf) ?_
   refine gc0 ht ?_
   refine (a_rekey s _ _ who q v.vs.keyLen (by omega) (by have:=v.vs.lat; have:=v.vs.pos; omega) (by have:=v.vs.lat; have:=hwl; omega) v.vs.find).mono ?_
   rintro r h' ⟨s',⟨e,rfl,hcase⟩,rfl⟩
   rcases hcase with ⟨e0,rfl⟩ | ⟨rfl,hh,hq,hR⟩
   ·have e1 : (e == 0) = false:=by simp [e0]
    refine go0 (ai ht (ai hf e1)) ?_
    exact ⟨_,by omega,i + 1,s',ws,_,_,k,rfl,rfl,v.step hlt v.vs rfl v.left,by (exact inv0 (ai ht hf))⟩
   ·unfold Sto.holds at hh
    rw [Bool.and_eq_true,beq_iff_eq] at hh
    have o1 : (s.own == []) = false:=by simpa using hh.1
    have o2 : (s.own != who) = false:=by simp [hh.2]
    refine go0 (ai ht (ai hf (ai o1 o2))) ?_
    exact ⟨_,by omega,i + 1,s',ws,_,_,k,rfl,rfl,v.step hlt (v.vs.rekey hwl hq hR) hR.lin ⟨by rw [hR.left]; exact v.left.lo,by rw [hR.left]; exact v.left.hi⟩,by (exact inv0 (ai ht hf))⟩
  ·have n5 : (kd == 5) = false:=by simp [q5]
   refine runc0 (ai ht (ai hf (ai n0 (ai n1 (ai n2 (ai n3 (ai n4 n5))))))) (ai cH ti) ?_
   exact ⟨_,by omega,i + 1,s,ws,_,_,k,rfl,rfl,v.step hlt v.vs rfl v.left,by (exact inv0 (ai ht hf))⟩
 have hf:=row_end Act.cells l i hge
 have hwl : (w0 lin :: ws).length < 60:=by have:=v.wl; have:=v.le; simp only [List.length_cons]; omega
 have hsr : s.serials = (List.range (ws.length + 1)).map fun i : Nat => (i : Int):=v.vs.serials hwl
 have cS:=fun l t => a_serials s l t (by have:=v.vs.lat; have:=v.vs.pos; omega) (by have:=v.vs.lat; have:=hwl; omega)
 rw [hsr] at cS
 have lS : ((rowsI ((List.range (ws.length + 1)).map fun i : Nat => (i : Int))).length : Int) = ((ws.length + 1 : Nat) : Int):=by rw [rowsI_length]; simp
 have lR : ((Rw lin ws).length : Int) = ((ws.length + 1 : Nat) : Int):=by rw [Rw_len]
 have hat:=fun (j : Nat) (hj : j < (w0 lin :: ws).length) => v.vs.at' j hj
 have hin : ∀ x ∈ w0 lin :: ws,Sf.StIn x:=fun x hx => by
  rcases List.mem_cons.1 hx with rfl | hx
  ·exact hw0.sin
  ·exact v.sin x hx
 have hlw : (w0 lin :: ws).length = ws.length + 1:=rfl
 refine runc0 (ai ht (ai hf (ai lS lR))) (ai cS ti) ?_
 refine awp_loop (fun m ts h => ∃ (j : Nat) (l'' : List Blk),m = ws.length + 1 - j ∧ j ≤ ws.length + 1 ∧ h = ⟨s.M :: s.B :: l'',t⟩ ∧ (ts 7 = .ptr 1 0 ∧ ts 9 = .sl 5 (.tok k) (Rw lin ws) ∧ ts 16 = .int .i64 (j : Nat))) (ws.length + 1) ?_ ?_
 ·exact ⟨0,l',rfl,Nat.zero_le _,rfl,by (exact inv0 ht)⟩
 rintro m ts' h ⟨j,l'',rfl,hj,rfl,hu⟩
 rcases Nat.lt_or_ge j (ws.length + 1) with hlt | hge
 ·have cA:=fun l t => a_at s l t (j : Int) v.vs.keyLen (v.vs.find j)
  rw [hat j hlt] at cA
  have hI:=hin _ (List.getElem_mem (l:=w0 lin :: ws) hlt)
  obtain ⟨x1,x2,x3,x4,x5,hx,hle⟩:=Rw_get lin ws j hlt
  obtain ⟨st,hst⟩ : ∃ st,(w0 lin :: ws)[j] = st:=⟨_,rfl⟩
  rw [hst] at cA hI hle
  dsimp only at cA
  have hA : st.A = .agg [.str st.lin,.int .i64 st.ser,.sl 13 .no (st.insts.map Sf.Inst.cells),.sl 3 .no (st.pends.map Sf.Pend.cells),.sl 7 .no (st.outs.map Sf.Outp.cells)]:=rfl
  have cE : ∀ h,ACall Tryz.prog GT 13 [st.A,.agg [x1,x2,x3,x4,x5]] h fun r h' => r = .bool true ∧ h' = h:=fun h => ACall.args (as':=[st.A,st.A]) ⟨le2_refl _,hle,trivial⟩ (a_stEqual st hI h)
  rw [hA] at cA cE
  have g1 : (j : Int) < ((ws.length + 1 : Nat) : Int):=by omega
  have g2 : (0 : Int) ≤ (j : Int):=by omega
  have g3 : (rowsI ((List.range (ws.length + 1)).map fun i : Nat => (i : Int))).getD j [] = [.int .i64 (j : Int)]:=by
   rw [rowsI_get _ j (by simpa using hlt)]; simp
  have ei : IntKind.i64.wrap ((j : Int) + 1) = ((j + 1 : Nat) : Int):=by rw [wrap64 (by omega) (by have:=v.wl; have:=v.le; omega)]; omega
  refine runc0 (ai hu (ai lS (ai lR (ai hx (ai g1 (ai g2 (ai g3 ei))))))) (ai cA (ai cE (ai cS ti))) ?_
  exact ⟨_,by omega,j + 1,_,rfl,by omega,rfl,by (exact inv0 (ai hu ei))⟩
 obtain rfl : j = ws.length + 1:=by omega
 have hlat : s.latest = ((ws.length : Nat) : Int):=by have:=v.vs.lat; rw [hlw] at this; omega
 have cR:=fun l t => a_read s l t v.vs.keyLen (v.vs.find s.latest)
 rw [hlat,hat ws.length (by omega)] at cR
 have hI:=hin _ (List.getElem_mem (l:=w0 lin :: ws) (show ws.length < (w0 lin :: ws).length by omega))
 obtain ⟨x1,x2,x3,x4,x5,hx,hle⟩:=Rw_get lin ws ws.length (by omega)
 obtain ⟨st,hst⟩ : ∃ st,(w0 lin :: ws)[ws.length] = st:=⟨_,rfl⟩
 rw [hst] at cR hI hle
 dsimp only at cR
 have hA : st.A = .agg [.str st.lin,.int .i64 st.ser,.sl 13 .no (st.insts.map Sf.Inst.cells),.sl 3 .no (st.pends.map Sf.Pend.cells),.sl 7 .no (st.outs.map Sf.Outp.cells)]:=rfl
 have cE : ∀ h,ACall Tryz.prog GT 13 [st.A,.agg [x1,x2,x3,x4,x5]] h fun r h' => r = .bool true ∧ h' = h:=fun h => ACall.args (as':=[st.A,st.A]) ⟨le2_refl _,hle,trivial⟩ (a_stEqual st hI h)
 rw [hA] at cR cE
 have g1 : ¬ ((ws.length + 1 : Nat) : Int) < ((ws.length + 1 : Nat) : Int):=by omega
 have g2 : (0 : Int) ≤ ((ws.length : Nat) : Int):=by omega
 have g3 : ((ws.length : Nat) : Int) < ((ws.length + 1 : Nat) : Int):=by omega
 have ei : IntKind.i64.wrap (((ws.length + 1 : Nat) : Int) - 1) = ((ws.length : Nat) : Int):=by rw [wrap64 (by omega) (by have:=v.wl; have:=v.le; omega)]; omega
 refine runc0 (ai hu (ai lR (ai hx (ai g1 (ai g2 (ai g3 ei)))))) (ai cR (ai cE (ai aw ti))) ?_
 exact ⟨_,le_refl _,rfl⟩
end AX
end Go.Proofs.YtnjkemakcejceaaGreatDoor

namespace Go.Proofs.YtnjkemakcejceaaGreatDoor
open Go.RowKit Go.ChangeShapes Go.WideShapes
namespace AX
def Act.toD (a : Act) : D:=.agg [.int .i64 a.kind,.str a.who,.int .i64 a.n,a.st.toD,.bool a.next,.str a.key]
theorem Act.cells_toD (a : Act) : a.toD.cells = a.cells:=by
 obtain ⟨k,who,n,st,nx,q⟩:=a
 have h:=Sf.St.cells_toD st
 unfold Sf.St.A at h
 injection h with h
 unfold Act.toD Act.cells
 simp only [D.cells,D.cellsL,h,List.cons_append,List.nil_append,List.append_nil]
set_option maxRecDepth 100000 in
theorem conf_act {d : D} (h : Conf Tryz.prog d 58) : ∃ x : Act,d = x.toD ∧ x.st.Wf:=by
 obtain ⟨l',rfl,h2⟩:=conf_struct Tryz.underlying58 h
 obtain ⟨d0,l1,rfl,c0,h2⟩:=confL_cons h2
 obtain ⟨d1,l2,rfl,c1,h2⟩:=confL_cons h2
 obtain ⟨d2,l3,rfl,c2,h2⟩:=confL_cons h2
 obtain ⟨d3,l4,rfl,c3,h2⟩:=confL_cons h2
 obtain ⟨d4,l5,rfl,c4,h2⟩:=confL_cons h2
 obtain ⟨d5,l6,rfl,c5,h2⟩:=confL_cons h2
 obtain rfl:=confL_nil h2
 obtain ⟨k,rfl,_⟩:=conf_int (k:=.i64) Tryz.underlying3 c0
 obtain ⟨who,rfl,_⟩:=conf_str Tryz.underlying9 c1
 obtain ⟨n,rfl,_⟩:=conf_int (k:=.i64) Tryz.underlying3 c2
 obtain ⟨st,rfl,hs⟩:=Sf.conf_st c3
 obtain ⟨nx,rfl⟩:=conf_bool Tryz.underlying4 c4
 obtain ⟨q,rfl,_⟩:=conf_str Tryz.underlying9 c5
 exact ⟨⟨k,who,n,st,nx,q⟩,rfl,hs⟩
theorem str_bulk {H : Type} {l : List UInt8} (h : Rows.uptoBulk (DataW.lit (H:=H) (.string l)) ≤ 1048576) : l.length ≤ 1048576:=by
 unfold Rows.uptoBulk at h
 simp at h
 omega
structure Acts where
 l : List Act
def Acts.bulkD (x : Acts) : Nat:=D.bulks (x.l.map Act.toD)
def kActs : List TypeId:=[47,58,26,42,95,98,22,23,24,40,36,3,9,4,37,38]
theorem kActs_plain : plainAll Tryz.prog kActs = true:=by kernel_rfl
section
variable {H : Type} {enc : TypeId × Value → H} {w : World} {base : Nat} {spare : Nat → Bool} {held : Bool} {r : Reach} {b0 : Nat} {v : Value} {d : DataW H} {p : List MemPlace}
set_option maxRecDepth 100000 in
theorem arg_sliceB {K : List TypeId} {t e : TypeId} (hK : plainAll Tryz.prog K = true) (ht : t ∈ K) (hu : Tryz.prog.underlying t = some (.slice e)) (hval : Value.okWide Tryz.prog w r b0 t v) (h : DataW.Trod enc Tryz.prog w base spare held t v d p) :
  ∃ x : List D,ConfA Tryz.prog x e ∧ x.length ≤ maxLen ∧ D.bulks x ≤ Rows.uptoBulk d ∧ Rep (Ctx.of w) (.sl (Tryz.prog.cellsOf e) .no (D.rows x)) v:=by
 obtain ⟨a,len,cap,rfl⟩:=okWide_slice hu hval
 obtain ⟨fuel,hf⟩:=h
 obtain ⟨x,h1,h2,h3⟩:=trod_rdB hK fuel t ht _ _ hf
 obtain ⟨l,rfl,h4,h5⟩:=conf_slice hu h2
 refine ⟨l,h4,h5,?_,?_⟩
 ·rw [D.bulk] at h3
  exact Nat.le_trans (by omega) h3
 ·have:=rd_of h1
  rw [D.cells] at this
  obtain ⟨c,cs',e1,e2,e3⟩:=repL_cons.1 this
  rw [repL_nil] at e3
  subst e3
  injection e1 with e1
  rw [e1]
  exact e2
set_option maxRecDepth 100000 in
theorem arg_conf_acts (hval : Value.okWide Tryz.prog w r b0 47 v) (h : DataW.Trod enc Tryz.prog w base spare held 47 v d p) :
  ∃ (x : Acts) (_ : ((∀ a ∈ x.l,a.st.Wf) ∧ x.l.length ≤ maxLen) ∧ x.bulkD ≤ Rows.uptoBulk d),Rep (Ctx.of w) (.sl 10 .no (x.l.map Act.cells)) v:=by
 obtain ⟨l,h1,h2,h3,h4⟩:=arg_sliceB kActs_plain (by decide) Tryz.underlying47 hval h
 obtain ⟨xs,rfl,hx⟩:=list_of_ l fun d hd => conf_act (confA_mem h1 d hd)
 rw [Sf.rows_map Act.toD Act.cells Act.cells_toD] at h4
 have hw : Tryz.prog.cellsOf 58 = 10:=by kernel_rfl
 rw [hw] at h4
 exact ⟨⟨xs⟩,⟨⟨hx,by simpa using h2⟩,h3⟩,h4⟩
end
end AX
end Go.Proofs.YtnjkemakcejceaaGreatDoor

namespace Go.Proofs.YtnjkemakcejceaaGreatDoor
open Go.RowKit
namespace AX
theorem w_versionsX (key : List UInt8) (kk : key.length ≤ 1048576) (lin : List UInt8) (kl : lin.length ≤ 1048576) (x : Acts) (k : ((∀ a ∈ x.l,a.st.Wf) ∧ x.l.length ≤ maxLen) ∧ x.bulkD ≤ 1048576) :
  ACall Tryz.prog GT 6 [.str key,.str lin,.sl 10 .no (x.l.map Act.cells)] ⟨[],[]⟩ fun r _ => r = .bool true:=by
 refine w_versions key lin x.l (fun a ha => ⟨k.1.1 a ha,?_⟩) ?_
 ·have h1:=(map_bulk Act.toD x.l).2 a ha
  have h2 : a.st.toD.bulk ≤ a.toD.bulk:=by
   unfold Act.toD
   simp only [D.bulk,D.bulks]
   omega
  have h3 : D.bulks (x.l.map Act.toD) ≤ 1048576:=k.2
  omega
 ·have h1:=(map_bulk Act.toD x.l).1
  have h3 : D.bulks (x.l.map Act.toD) ≤ 1048576:=k.2
  omega
end AX
end Go.Proofs.YtnjkemakcejceaaGreatDoor
