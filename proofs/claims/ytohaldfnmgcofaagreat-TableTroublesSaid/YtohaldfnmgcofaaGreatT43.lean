/- The law TableTroubles, lifted to arguments that are read. No conditions. -/
import Derived.Test.YtohaldfnmgcofaaGreatT41
import Derived.Test.YtohaldfnmgcofaaGreatT42
import Derived.Test.YtohaldfnmgcofaaGreatT33
set_option maxRecDepth 100000
set_option maxHeartbeats 1000000
set_option linter.unusedSimpArgs false
set_option linter.unusedVariables false
namespace Go.Proofs.YtohaldfnmgcofaaGreat
open Go.ChangeShapes Go.WideShapes Go.ChangeAt Go.RowKit
theorem Z8r(os:Os)(started:os.Started)(H:Type)(enc:TypeId×Value->H):
  ReturnsInHanded {} Tryz.checked os 8 .any (Rows.tableTroublesSpec.pre6 enc Tryz.prog Tryz.f8 Rows.tableTroublesRow.domain false) (Rows.tableTroublesSpec.post enc Tryz.prog Tryz.f8 false true false false):=by
 refine returnsInHanded_of_change (C:=Tryz.checked) Tryz.ownA started (by kernel_rfl) Tryz.func8
  (ChangeSpec.witness6 (enc:=enc) (C:=Tryz.checked) false ⟨#[],#[.slice none 0 0,.int .u8 0,.bool false,.int .u64 0,.slice none 0 0],[]⟩ 8 (by kernel_rfl) (by kernel_rfl) (by kernel_rfl) (by kernel_rfl)) ?_
 intro W base args ds gs before hval0 hW hcnd _;have hval:∀(j:Nat) t v,Tryz.f8.params[j]? =some t->args[j]? =some v->Value.okWide Tryz.prog W .any base t v:=hval0;have hW':=hW;obtain⟨p,q,hA0,hV,rfl,hfz,hnd⟩:=hW;have hA:DataW.TrodAll enc Tryz.prog W 0 (fun _=>true) true Tryz.f8.params.toList args.toList ds p:=hA0;rw[Tryz.params8]at hA hval;obtain⟨v0,v1,v2,v3,v4,d0,d1,d2,d3,d4,p0,p1,p2,p3,p4,rfl,rfl,rfl,h0,h1,h2,h3,h4⟩:=Y9l hA;obtain⟨rfl,rfl⟩:=trodVars_none hV;obtain⟨a0,n0,m0,rfl⟩:=okWide_slice Tryz.underlying65 (hval 0 65 v0 rfl rfl);obtain⟨a4,n4,m4,rfl⟩:=okWide_slice Tryz.underlying80 (hval 4 80 v4 rfl rfl);have h0k:=h0;obtain⟨fuel0,hf0⟩:=h0;have h1k:=h1;obtain⟨fuel1,hf1⟩:=h1;have h2k:=h2;obtain⟨fuel2,hf2⟩:=h2;have h3k:=h3;obtain⟨fuel3,hf3⟩:=h3;have h4k:=h4;obtain⟨fuel4,hf4⟩:=h4;clear hA0 hval0;simp only[List.append_nil,aG]at hW';have hlt:∀x∈p0++(p1++(p2++(p3++p4))),x.block<W.heap.size:=fun x hx=>by simpa using hW'.lt x hx
 have hargs0:∀(W':World),Below W.heap.size W W'->DataW.Trod enc Tryz.prog W' 0 (fun b=>decide (b<W.heap.size)) true 65 (.slice a0 n0 m0) d0 p0:=
  fun W' hn=>Below.trod Tryz.laidA (by kernel_rfl) (of_decide_eq_true (by kernel_rfl)) h0k hn (fun x hx=>hlt x (List.mem_append_left _ hx))
 have hargs1:∀(W':World),Below W.heap.size W W'->DataW.Trod enc Tryz.prog W' 0 (fun b=>decide (b<W.heap.size)) true 5 v1 d1 p1:=
  fun W' hn=>Below.trod Tryz.laidA (by kernel_rfl) (of_decide_eq_true (by kernel_rfl)) h1k hn (fun x hx=>hlt x (List.mem_append_right _ (List.mem_append_left _ hx)))
 have hargs2:∀(W':World),Below W.heap.size W W'->DataW.Trod enc Tryz.prog W' 0 (fun b=>decide (b<W.heap.size)) true 4 v2 d2 p2:=
  fun W' hn=>Below.trod Tryz.laidA (by kernel_rfl) (of_decide_eq_true (by kernel_rfl)) h2k hn (fun x hx=>hlt x (List.mem_append_right _ (List.mem_append_right _ (List.mem_append_left _ hx))))
 have hargs3:∀(W':World),Below W.heap.size W W'->DataW.Trod enc Tryz.prog W' 0 (fun b=>decide (b<W.heap.size)) true 79 v3 d3 p3:=
  fun W' hn=>Below.trod Tryz.laidA (by kernel_rfl) (of_decide_eq_true (by kernel_rfl)) h3k hn (fun x hx=>hlt x (List.mem_append_right _ (List.mem_append_right _ (List.mem_append_right _ (List.mem_append_left _ hx)))))
 have hargs4:∀(W':World),Below W.heap.size W W'->DataW.Trod enc Tryz.prog W' 0 (fun b=>decide (b<W.heap.size)) true 80 (.slice a4 n4 m4) d4 p4:=
  fun W' hn=>Below.trod Tryz.laidA (by kernel_rfl) (of_decide_eq_true (by kernel_rfl)) h4k hn (fun x hx=>hlt x (List.mem_append_right _ (List.mem_append_right _ (List.mem_append_right _ (List.mem_append_right _ hx)))))
 obtain⟨V0,l0,e0,hs0,how0⟩:=V1q hf0;have e0':Value.slice a0 n0 m0=V0:=by simpa [Value.cells]using e0
 subst e0';obtain⟨k1,e1,_,w1⟩:=DataW.trod_int Tryz.underlying5 hf1;have e1':v1= .int .u8 k1:=by obtain⟨q1,rfl⟩:=okWide_int Tryz.underlying5 (hval 1 5 v1 rfl rfl);simpa [Value.cells]using e1
 subst e1';have b1:0<=k1/\k1<256:=by have h:=w1;simp[Lit.wf,IntKind.min,IntKind.max,IntKind.signed,IntKind.bits]at h;omega
 obtain⟨k2,e2,_⟩:=DataW.trod_bool Tryz.underlying4 hf2;have e2':v2= .bool k2:=by obtain⟨q1,rfl⟩:=okWide_bool Tryz.underlying4 (hval 2 4 v2 rfl rfl);simpa [Value.cells]using e2
 subst e2';obtain⟨k3,e3,_,w3⟩:=DataW.trod_int Tryz.underlying79 hf3;have e3':v3= .int .u64 k3:=by obtain⟨q1,rfl⟩:=okWide_int Tryz.underlying79 (hval 3 79 v3 rfl rfl);simpa [Value.cells]using e3
 subst e3';have b3:0<=k3/\k3<18446744073709551616:=by have h:=w3;simp[Lit.wf,IntKind.min,IntKind.max,IntKind.signed,IntKind.bits]at h;omega
 obtain⟨V4,l4,e4,hs4,how4⟩:=X7m hf4;have e4':Value.slice a4 n4 m4=V4:=by simpa [Value.cells]using e4
 subst e4';refine(Y0y X3j _ _ l0 k1 k3 k2 l4 W hs0 how0 b1 b3 hs4 how4).mono fun e W' ⟨he,hnx⟩=> ?_;subst he;refine⟨_,rfl,_,_,_,[],p0++(p1++(p2++(p3++p4))),[],hW',?_,?_,rfl,hnx.frame _,fun h=>by cases h⟩
 ·exact trodAll_mk1 (shut_bool Tryz.underlying4 true)
 ·exact⟨_,_,hargs0 _ hnx,trodAll_mk4 (hargs1 _ hnx) (hargs2 _ hnx) (hargs3 _ hnx) (hargs4 _ hnx),rfl⟩
end Go.Proofs.YtohaldfnmgcofaaGreat
