/- Part of what the proof needs. -/
import Derived.Test.YthhpocnmfknalaaGreatDoorMFrWorkspaceCallsY
set_option maxHeartbeats 4000000
set_option maxRecDepth 100000
set_option linter.all false
namespace Go.Proofs.YthhpocnmfknalaaGreatDoor
section
open Go.RowKit Go.ChangeShapes Go.WideShapes
namespace AX
section
variable {H:Type} {enc:TypeId×Value->H} {w:World} {base:Nat} {spare:Nat->Bool} {held:Bool} {r:Reach} {b0:Nat} {v:Value} {d:DataW H} {p:List MemPlace}
theorem czp{K:List TypeId}{t e:TypeId}(hK:plainAll Tryz.prog K=true)(ht:t∈K)(hu:Tryz.prog.underlying t=some (.slice e))(hval:Value.okWide Tryz.prog w r b0 t v)(h:DataW.Trod enc Tryz.prog w base spare held t v d p):
  ∃x:List D,ConfA Tryz.prog x e/\x.length<=maxLen/\D.bulks x<=Rows.uptoBulk d/\Rep (Ctx.of w) (.sl (Tryz.prog.cellsOf e) .no (D.rows x)) v:=by
 obtain⟨a,len,cap,rfl⟩:=okWide_slice hu hval;obtain⟨fuel,hf⟩:=h;obtain⟨x,h1,h2,h3⟩:=bq2 hK fuel t ht _ _ hf;obtain⟨l,rfl,h4,h5⟩:=axo hu h2;refine⟨l,h4,h5,?_,?_⟩
 ·rw[D.bulk]at h3;exact Zr (by omega) h3
 ·have:=dj2 h1;rw[D.cells]at this;obtain⟨c,cs',e1,e2,e3⟩:=repL_cons.1 this;rw[azp]at e3;subst e3;injection e1 with e1;rw[e1];exact e2
end
end AX
end
section
open Go.RowKit Go.ChangeShapes Go.WideShapes
namespace AX
section
variable {H:Type} {enc:TypeId×Value->H} {w:World} {base:Nat} {spare:Nat->Bool} {held:Bool} {r:Reach} {b0:Nat} {v:Value} {d:DataW H} {p:List MemPlace}
end
end AX
end
section
open Go.RowKit Go.ChangeShapes Go.WideShapes
namespace AX
def Op51.toD(a:Op51):D:=.agg [.int .u8 a.kind,.str a.name,.sl 7 (a.outs.map Sf.Outp.toD),.bool a.full]
theorem Op51.cells_toD(a:Op51):a.toD.cells=a.cells:=by
 unfold Op51.toD Op51.cells opA;simp only[D.cells,D.cellsL,Sf.rows_map _ _ Sf.Outp.cells_toD,ZE,Zq,Zz]
theorem djq{n:Int}(h:(Lit.int .u8 n).wf=true):0<=n:=(wf_u8 h).1
theorem cjb{d:D}(h:Conf Tryz.prog d 25):∃x:Op51,d=x.toD/\0<=x.kind/\∀o∈x.outs,o.value.Wf:=by
 obtain⟨l',rfl,h2⟩:=axq Tryz.underlying25 h;obtain⟨d0,l1,rfl,c0,h2⟩:=azx h2;obtain⟨d1,l2,rfl,c1,h2⟩:=azx h2;obtain⟨d2,l3,rfl,c2,h2⟩:=azx h2;obtain⟨d3,l4,rfl,c3,h2⟩:=azx h2;obtain rfl:=awg h2;obtain⟨k,rfl,hk⟩:=bz4 (k:=.u8) Tryz.underlying5 c0;obtain⟨n,rfl,_⟩:=akr Tryz.underlying9 c1;obtain⟨l,rfl,k3,_⟩:=axo Tryz.underlying22 c2;obtain⟨os,rfl,ho⟩:=bz1 l fun d hd=>Sf.conf_outp (avm k3 d hd)
 obtain⟨f,rfl⟩:=bj2 Tryz.underlying4 c3;have hw:Tryz.prog.cellsOf 55=7:=by kernel_rfl
 rw[hw];exact⟨⟨k,n,os,f⟩,rfl,djq hk,ho⟩
structure Ops51 where
 l:List Op51
def dx2:List TypeId:=[26,25,5,22,55,51,48,3,9,4,49,34]
theorem bjq:plainAll Tryz.prog dx2=true:=by kernel_rfl
section
variable {H:Type} {enc:TypeId×Value->H} {w:World} {base:Nat} {spare:Nat->Bool} {held:Bool} {r:Reach} {b0:Nat} {v:Value} {d:DataW H} {p:List MemPlace}
theorem ayr(hval:Value.okWide Tryz.prog w r b0 26 v)(h:DataW.Trod enc Tryz.prog w base spare held 26 v d p):
  ∃(x:Ops51) (_:∀a∈x.l,0<=a.kind/\∀o∈a.outs,o.value.Wf),Rep (Ctx.of w) (.sl 4 .no (x.l.map Op51.cells)) v:=by
 obtain⟨l,h1,h2,h3,h4⟩:=czp bjq (by decide) Tryz.underlying26 hval h;obtain⟨xs,rfl,hx⟩:=bz1 l fun d hd=>cjb (avm h1 d hd)
 rw[Sf.rows_map Op51.toD Op51.cells Op51.cells_toD]at h4;have hw:Tryz.prog.cellsOf 25=4:=by kernel_rfl
 rw[hw]at h4;exact⟨⟨xs⟩,hx,h4⟩
end
end AX
end
section
open Go.RowKit
namespace AX
theorem cwd(key:List UInt8){n:Nat}(_k:n<=maxLen)(x:Ops51)(k:∀a∈x.l,0<=a.kind/\∀o∈a.outs,o.value.Wf)(except:List UInt8){n2:Nat}(_k2:n2<=maxLen):
  AC 6 [.str key,.sl 4 .no (x.l.map Op51.cells),.str except] ⟨[],[]⟩ fun r _=>r=.bool true:=
 cqv key except x.l (fun y hy o ho=>V.Wf.lens o.value ((k y hy).2 o ho)) fun y hy=>(k y hy).1
end AX
end
end Go.Proofs.YthhpocnmfknalaaGreatDoor
