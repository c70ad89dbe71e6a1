/- Arguments that are read: lists of acts. No conditions. -/
import Derived.Test.YtohaldfnmgcofaaGreatW16
import Derived.Test.YtohaldfnmgcofaaGreatW44
set_option maxRecDepth 100000
set_option linter.unusedSimpArgs false
set_option linter.unusedVariables false
namespace Go.Proofs.YtohaldfnmgcofaaGreat
open Go.ChangeShapes Go.WideShapes Go.ChangeAt Go.RowKit
theorem Tryz.ownA:ownKnob Tryz.prog.godebug=none:=by kernel_rfl
theorem Tryz.laidA:laidOutB Tryz.prog=true:=by kernel_rfl
section
variable {H:Type} {enc:TypeId×Value->H} {w:World} {spare:Nat->Bool} {held:Bool}
theorem Tryz.act12:Tryz.prog.cellsOf 75=12:=by kernel_rfl
theorem V6h(fuel:Nat){cs:List Value}{x:DataW H×List MemPlace}(h:DataW.trod enc Tryz.prog w 0 spare held fuel 75 cs=some x):∃a:Int×OpD,RAct a cs/\In64 a.2.id/\In64 a.2.result:=by
 obtain⟨xs,k,rfl,_,hcl,hxl,hg⟩:=DataW.trod_struct Tryz.underlying75 h;rw[Tryz.act12]at hcl
 match cs,hcl,xs,hxl with
 | [c0,c1,c2,c3,c4,c5,c6,c7,c8,c9,c10,c11],_,[y0,y1],_=>
   have g0:=hg 0 _ rfl;have g1:=hg 1 _ rfl;clear hg h hxl hcl;simp[Tryz.cInt,Tryz.op11]at g0 g1;obtain⟨n0,e0,_,_⟩:=DataW.trod_int Tryz.underlying3 g0;obtain⟨o,ho,how⟩:=U0e _ g1;simp only[List.cons.injEq,and_true]at e0;subst e0;exact⟨(n0,o),by show _=_::o.cells;rw[<-show _=o.cells from ho],X5q how.id,X5q how.result⟩
theorem V1d{fuel:Nat}{cs:List Value}{x:DataW H×List MemPlace}(h:DataW.trod enc Tryz.prog w 0 spare held fuel 65 cs=some x):∃v l,cs= [v]/\Sl w 12 RAct v l/\∀a∈l,In64 a.2.id/\In64 a.2.result:=by obtain⟨v,l,e,hs⟩:=U0d (fun (a:Int×OpD) cs=>RAct a cs/\In64 a.2.id/\In64 a.2.result) Tryz.underlying65 Tryz.act12 (by omega) (fun m cs x _ hx=>V6h m hx) h;exact⟨v,l,e,hs.mono (fun _ _ h=>h.1),fun o ho=>by obtain⟨_,_,h⟩:=hs.all o ho;exact h⟩
end
end Go.Proofs.YtohaldfnmgcofaaGreat
