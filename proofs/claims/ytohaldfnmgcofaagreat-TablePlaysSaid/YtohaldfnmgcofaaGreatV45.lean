/- Arguments that are read: lists of acts. No conditions. -/
import Derived.Test.YtohaldfnmgcofaaGreatV16
import Derived.Test.YtohaldfnmgcofaaGreatV44
import Derived.Test.YtohaldfnmgcofaaGreatV38
set_option maxRecDepth 100000
set_option maxHeartbeats 1000000
set_option linter.unusedSimpArgs false
set_option linter.unusedVariables false
namespace Go.Proofs.YtohaldfnmgcofaaGreat
open Go.ChangeShapes Go.WideShapes Go.ChangeAt Go.RowKit
theorem Tryz.ownA:ownKnob Tryz.prog.godebug=none:=by kernel_rfl
theorem Tryz.laidA:laidOutB Tryz.prog=true:=by kernel_rfl
section
variable {H:Type} {enc:TypeId×Value->H} {w:World} {spare:Nat->Bool} {held:Bool}
theorem Tryz.act12:Tryz.prog.cellsOf 75=12:=by kernel_rfl
theorem V5a(fuel:Nat){cs:List Value}{x:DataW H×List MemPlace}(h:DataW.trod enc Tryz.prog w 0 spare held fuel 75 cs=some x):∃a:Int×OpD,RAct a cs/\In64 a.2.id/\In64 a.2.result:=by
 obtain⟨xs,k,rfl,_,hcl,hxl,hg⟩:=DataW.trod_struct Tryz.underlying75 h;rw[Tryz.act12]at hcl
 match cs,hcl,xs,hxl with
 | [c0,c1,c2,c3,c4,c5,c6,c7,c8,c9,c10,c11],_,[y0,y1],_=>
   have g0:=hg 0 _ rfl;have g1:=hg 1 _ rfl;clear hg h hxl hcl;simp[Tryz.cInt,Tryz.op11]at g0 g1;obtain⟨n0,e0,_,_⟩:=DataW.trod_int Tryz.underlying3 g0;obtain⟨o,ho,how⟩:=V8w _ g1;simp only[List.cons.injEq,and_true]at e0;subst e0;exact⟨(n0,o),by show _=_::o.cells;rw[<-show _=o.cells from ho],X4j how.id,X4j how.result⟩
theorem X9w{fuel:Nat}{cs:List Value}{x:DataW H×List MemPlace}(h:DataW.trod enc Tryz.prog w 0 spare held fuel 65 cs=some x):∃v l,cs= [v]/\Sl w 12 RAct v l/\∀a∈l,In64 a.2.id/\In64 a.2.result:=by obtain⟨v,l,e,hs⟩:=V8v (fun (a:Int×OpD) cs=>RAct a cs/\In64 a.2.id/\In64 a.2.result) Tryz.underlying65 Tryz.act12 (by omega) (fun m cs x _ hx=>V5a m hx) h;exact⟨v,l,e,hs.mono (fun _ _ h=>h.1),fun o ho=>by obtain⟨_,_,h⟩:=hs.all o ho;exact h⟩
end
theorem Y0b(os:Os)(started:os.Started)(H:Type)(enc:TypeId×Value->H):
  ReturnsInHanded {} Tryz.checked os 7 .any (Rows.tablePlaysSpec.pre6 enc Tryz.prog Tryz.f7 Rows.tablePlaysRow.domain false) (Rows.tablePlaysSpec.post enc Tryz.prog Tryz.f7 false true false false):=by
 refine returnsInHanded_of_change (C:=Tryz.checked) Tryz.ownA started (by kernel_rfl) Tryz.func7
  (ChangeSpec.witness6 (enc:=enc) (C:=Tryz.checked) false ⟨#[],#[.slice none 0 0],[]⟩ 8 (by kernel_rfl) (by kernel_rfl) (by kernel_rfl) (by kernel_rfl)) ?_
 intro W base args ds gs before hval0 hW hcnd _;have hval:∀(j:Nat) t v,Tryz.f7.params[j]? =some t->args[j]? =some v->Value.okWide Tryz.prog W .any base t v:=hval0;have hW':=hW;obtain⟨p,q,hA0,hV,rfl,hfz,hnd⟩:=hW;have hA:DataW.TrodAll enc Tryz.prog W 0 (fun _=>true) true Tryz.f7.params.toList args.toList ds p:=hA0;rw[Tryz.params7]at hA hval;obtain⟨v0,d0,rfl,rfl,h0⟩:=trodAll_one hA;obtain⟨rfl,rfl⟩:=trodVars_none hV;obtain⟨a0,n0,m0,rfl⟩:=okWide_slice Tryz.underlying65 (hval 0 65 v0 rfl rfl);have h0k:=h0;obtain⟨fuel0,hf0⟩:=h0;clear hA0 hval0;simp only[List.append_nil]at hW';have hlt:∀x∈p,x.block<W.heap.size:=fun x hx=>by simpa using hW'.lt x hx
 have hargs0:∀(W':World),Below W.heap.size W W'->DataW.Trod enc Tryz.prog W' 0 (fun b=>decide (b<W.heap.size)) true 65 (.slice a0 n0 m0) d0 p:=
  fun W' hn=>Below.trod Tryz.laidA (by kernel_rfl) (of_decide_eq_true (by kernel_rfl)) h0k hn hlt
 obtain⟨V,l,e0,hs,how⟩:=X9w hf0;have e0':Value.slice a0 n0 m0=V:=by simpa [Value.cells]using e0
 subst e0';refine(Y4q X1y _ l W hs how).mono fun e W' ⟨he,hnx⟩=> ?_;subst he;refine⟨_,rfl,_,_,_,[],p,[],hW',?_,?_,rfl,hnx.frame _,fun h=>by cases h⟩
 ·exact trodAll_mk1 (shut_bool Tryz.underlying4 true)
 ·exact trodAll_mk1 (hargs0 _ hnx)
end Go.Proofs.YtohaldfnmgcofaaGreat
