/- Arguments that are read: lists of acts. No conditions. -/
import Derived.Test.YtohaldfnmgcofaaGreatT14
import Derived.Test.YtohaldfnmgcofaaGreatT40
set_option maxRecDepth 100000
set_option linter.unusedSimpArgs false
set_option linter.unusedVariables false
namespace Go.Proofs.YtohaldfnmgcofaaGreat
open Go.ChangeShapes Go.WideShapes Go.ChangeAt Go.RowKit
theorem Tryz.ownA:ownKnob Tryz.prog.godebug=none:=by kernel_rfl
theorem Tryz.laidA:laidOutB Tryz.prog=true:=by kernel_rfl
section
variable {H:Type} {enc:TypeId×Value->H} {w:World} {spare:Nat->Bool} {held:Bool}
theorem Tryz.act12:Tryz.prog.cellsOf 75=12:=by kernel_rfl
theorem V6y(fuel:Nat){cs:List Value}{x:DataW H×List MemPlace}(h:DataW.trod enc Tryz.prog w 0 spare held fuel 75 cs=some x):∃a:Int×OpD,RAct a cs/\In64 a.2.id/\In64 a.2.result:=by
 obtain⟨xs,k,rfl,_,hcl,hxl,hg⟩:=DataW.trod_struct Tryz.underlying75 h;rw[Tryz.act12]at hcl
 match cs,hcl,xs,hxl with
 | [c0,c1,c2,c3,c4,c5,c6,c7,c8,c9,c10,c11],_,[y0,y1],_=>
   have g0:=hg 0 _ rfl;have g1:=hg 1 _ rfl;clear hg h hxl hcl;simp[Tryz.cInt,Tryz.op11]at g0 g1;obtain⟨n0,e0,_,_⟩:=DataW.trod_int Tryz.underlying3 g0;obtain⟨o,ho,how⟩:=U0w _ g1;simp only[List.cons.injEq,and_true]at e0;subst e0;exact⟨(n0,o),by show _=_::o.cells;rw[<-show _=o.cells from ho],Y8v how.id,Y8v how.result⟩
theorem V1q{fuel:Nat}{cs:List Value}{x:DataW H×List MemPlace}(h:DataW.trod enc Tryz.prog w 0 spare held fuel 65 cs=some x):∃v l,cs= [v]/\Sl w 12 RAct v l/\∀a∈l,In64 a.2.id/\In64 a.2.result:=by obtain⟨v,l,e,hs⟩:=V1p (fun (a:Int×OpD) cs=>RAct a cs/\In64 a.2.id/\In64 a.2.result) Tryz.underlying65 Tryz.act12 (by omega) (fun m cs x _ hx=>V6y m hx) h;exact⟨v,l,e,hs.mono (fun _ _ h=>h.1),fun o ho=>by obtain⟨_,_,h⟩:=hs.all o ho;exact h⟩
theorem X7m{fuel:Nat}{cs:List Value}{x:DataW H×List MemPlace}(h:DataW.trod enc Tryz.prog w 0 spare held fuel 80 cs=some x):∃v l,cs= [v]/\Sl w 1 RIn v l/\∀x∈l,In64 x:=by
 obtain⟨v,ys,rfl,hsl⟩:=V1p (fun (a:Int) cs=>RIn a cs/\In64 a) Tryz.underlying80 Tryz.cInt (by omega) (fun m cs x _ hx=>by
  obtain⟨n0,e0,_,w0⟩:=DataW.trod_int Tryz.underlying3 hx;exact⟨n0,e0,Y8v w0⟩) h
 exact⟨v,ys,rfl,hsl.mono (fun _ _ h=>h.1),fun o ho=>by obtain⟨_,_,h⟩:=hsl.all o ho;exact h⟩
theorem Y9l{P:Program}{base:Nat}{t t' t'' t3 t4:TypeId}{args:Array Value}{ds:List (DataW H)}{ps:List MemPlace}(h:DataW.TrodAll enc P w base spare held [t,t',t'',t3,t4] args.toList ds ps):
  ∃v v' v'' v3 v4 d d' d'' d3 d4 p p' p'' p3 p4,args= #[v,v',v'',v3,v4]/\ds= [d,d',d'',d3,d4]/\ps=p++p'++p''++p3++p4/\DataW.Trod enc P w base spare held t v d p/\DataW.Trod enc P w base spare held t' v' d' p'/\DataW.Trod enc P w base spare held t'' v'' d'' p''/\DataW.Trod enc P w base spare held t3 v3 d3 p3/\DataW.Trod enc P w base spare held t4 v4 d4 p4:=by
 obtain⟨v,vs,d,ds',p,q,hargs,rfl,rfl,hd,hr⟩:=trodAll_cons h;obtain⟨v',v'',v3,v4,d',d'',d3,d4,p',p'',p3,p4,ha,rfl,rfl,h1,h2,h3,h4⟩:=trodAll_four (args:=vs.toArray) (by simpa using hr);have ha':vs= [v',v'',v3,v4]:=by simpa using congrArg Array.toList ha
 subst ha';exact⟨v,v',v'',v3,v4,d,d',d'',d3,d4,p,p',p'',p3,p4,by cases args;simp_all,rfl,by simp,hd,h1,h2,h3,h4⟩
end
end Go.Proofs.YtohaldfnmgcofaaGreat
