/- The law TableSound, lifted to arguments that are read. No conditions. -/
import Derived.Test.YtohaldfnmgcofaaGreatW45
import Derived.Test.YtohaldfnmgcofaaGreatW46
import Derived.Test.YtohaldfnmgcofaaGreatW37
set_option maxRecDepth 100000
set_option maxHeartbeats 1000000
set_option linter.unusedSimpArgs false
set_option linter.unusedVariables false
namespace Go.Proofs.YtohaldfnmgcofaaGreat
open Go.ChangeShapes Go.WideShapes Go.ChangeAt Go.RowKit
theorem Y0t(os:Os)(started:os.Started)(H:Type)(enc:TypeId×Value->H):
  ReturnsInHanded {} Tryz.checked os 9 .any (Rows.tableSoundSpec.pre6 enc Tryz.prog Tryz.f9 Rows.tableSoundRow.domain false) (Rows.tableSoundSpec.post enc Tryz.prog Tryz.f9 false true false false):=by
 refine returnsInHanded_of_change (C:=Tryz.checked) Tryz.ownA started (by kernel_rfl) Tryz.func9
  (ChangeSpec.witness6 (enc:=enc) (C:=Tryz.checked) false ⟨#[],#[.slice none 0 0],[]⟩ 8 (by kernel_rfl) (by kernel_rfl) (by kernel_rfl) (by kernel_rfl)) ?_
 intro W base args ds gs before hval0 hW hcnd _;have hval:∀(j:Nat) t v,Tryz.f9.params[j]? =some t->args[j]? =some v->Value.okWide Tryz.prog W .any base t v:=hval0;have hW':=hW;obtain⟨p,q,hA0,hV,rfl,hfz,hnd⟩:=hW;have hA:DataW.TrodAll enc Tryz.prog W 0 (fun _=>true) true Tryz.f9.params.toList args.toList ds p:=hA0;rw[Tryz.params9]at hA hval;obtain⟨v0,d0,rfl,rfl,h0⟩:=trodAll_one hA;obtain⟨rfl,rfl⟩:=trodVars_none hV;obtain⟨a0,n0,m0,rfl⟩:=okWide_slice Tryz.underlying65 (hval 0 65 v0 rfl rfl);have h0k:=h0;obtain⟨fuel0,hf0⟩:=h0;clear hA0 hval0;simp only[List.append_nil]at hW';have hlt:∀x∈p,x.block<W.heap.size:=fun x hx=>by simpa using hW'.lt x hx
 have hargs0:∀(W':World),Below W.heap.size W W'->DataW.Trod enc Tryz.prog W' 0 (fun b=>decide (b<W.heap.size)) true 65 (.slice a0 n0 m0) d0 p:=
  fun W' hn=>Below.trod Tryz.laidA (by kernel_rfl) (of_decide_eq_true (by kernel_rfl)) h0k hn hlt
 obtain⟨V,l,e0,hs,how⟩:=V1d hf0;have e0':Value.slice a0 n0 m0=V:=by simpa [Value.cells]using e0
 subst e0';refine(Y5h X2y _ l W hs how).mono fun e W' ⟨he,hnx⟩=> ?_;subst he;refine⟨_,rfl,_,_,_,[],p,[],hW',?_,?_,rfl,hnx.frame _,fun h=>by cases h⟩
 ·exact trodAll_mk1 (shut_bool Tryz.underlying4 true)
 ·exact trodAll_mk1 (hargs0 _ hnx)
end Go.Proofs.YtohaldfnmgcofaaGreat
