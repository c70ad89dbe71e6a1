/- The law TableRanges, lifted to arguments that are read. No conditions. -/
import Derived.Test.YtmiolpfanlpfnaaGreatW47
import Derived.Test.YtmiolpfanlpfnaaGreatW48
import Derived.Test.YtmiolpfanlpfnaaGreatW37
set_option maxRecDepth 100000
set_option maxHeartbeats 1000000
set_option linter.unusedSimpArgs false
set_option linter.unusedVariables false
namespace Go.Proofs.YtmiolpfanlpfnaaGreat
open Go.ChangeShapes Go.WideShapes Go.ChangeAt Go.RowKit
theorem Z9k(os:Os)(started:os.Started)(H:Type)(enc:TypeId×Value->H):
  ReturnsInHanded {} Tryz.checked os 5 .any (Rows.tableRangesSpec.pre6 enc Tryz.prog Tryz.f5 Rows.tableRangesRow.domain false) (Rows.tableRangesSpec.post enc Tryz.prog Tryz.f5 false true false false):=by
 refine returnsInHanded_of_change (C:=Tryz.checked) Tryz.ownA started (by kernel_rfl) Tryz.func5
  (ChangeSpec.witness6 (enc:=enc) (C:=Tryz.checked) false ⟨#[],#[.slice none 0 0,.int .i64 0,.slice none 0 0,.int .i64 0,.int .i64 0],[]⟩ 8 (by kernel_rfl) (by kernel_rfl) (by kernel_rfl) (by kernel_rfl)) ?_
 intro W base args ds gs before hval0 hW hcnd _;have hval:∀(j:Nat) t v,Tryz.f5.params[j]? =some t->args[j]? =some v->Value.okWide Tryz.prog W .any base t v:=hval0;have hW':=hW;obtain⟨p,q,hA0,hV,rfl,hfz,hnd⟩:=hW;have hA:DataW.TrodAll enc Tryz.prog W 0 (fun _=>true) true Tryz.f5.params.toList args.toList ds p:=hA0;rw[Tryz.params5]at hA hval;obtain⟨v0,v1,v2,v3,v4,d0,d1,d2,d3,d4,p0,p1,p2,p3,p4,rfl,rfl,rfl,h0,h1,h2,h3,h4⟩:=Y9d hA;obtain⟨rfl,rfl⟩:=trodVars_none hV;obtain⟨a0,n0,m0,rfl⟩:=okWide_slice Tryz.underlying22 (hval 0 22 v0 rfl rfl);obtain⟨a2,n2,m2,rfl⟩:=okWide_slice Tryz.underlying23 (hval 2 23 v2 rfl rfl);have h0k:=h0;obtain⟨fuel0,hf0⟩:=h0;have h1k:=h1;obtain⟨fuel1,hf1⟩:=h1;have h2k:=h2;obtain⟨fuel2,hf2⟩:=h2;have h3k:=h3;obtain⟨fuel3,hf3⟩:=h3;have h4k:=h4;obtain⟨fuel4,hf4⟩:=h4;clear hA0 hval0;simp only[List.append_nil,aG]at hW';have hlt:∀x∈p0++(p1++(p2++(p3++p4))),x.block<W.heap.size:=fun x hx=>by simpa using hW'.lt x hx
 have hargs0:∀(W':World),Below W.heap.size W W'->DataW.Trod enc Tryz.prog W' 0 (fun b=>decide (b<W.heap.size)) true 22 (.slice a0 n0 m0) d0 p0:=
  fun W' hn=>Below.trod Tryz.laidA (by kernel_rfl) (of_decide_eq_true (by kernel_rfl)) h0k hn (fun x hx=>hlt x (List.mem_append_left _ hx))
 have hargs1:∀(W':World),Below W.heap.size W W'->DataW.Trod enc Tryz.prog W' 0 (fun b=>decide (b<W.heap.size)) true 3 v1 d1 p1:=
  fun W' hn=>Below.trod Tryz.laidA (by kernel_rfl) (of_decide_eq_true (by kernel_rfl)) h1k hn (fun x hx=>hlt x (List.mem_append_right _ (List.mem_append_left _ hx)))
 have hargs2:∀(W':World),Below W.heap.size W W'->DataW.Trod enc Tryz.prog W' 0 (fun b=>decide (b<W.heap.size)) true 23 (.slice a2 n2 m2) d2 p2:=
  fun W' hn=>Below.trod Tryz.laidA (by kernel_rfl) (of_decide_eq_true (by kernel_rfl)) h2k hn (fun x hx=>hlt x (List.mem_append_right _ (List.mem_append_right _ (List.mem_append_left _ hx))))
 have hargs3:∀(W':World),Below W.heap.size W W'->DataW.Trod enc Tryz.prog W' 0 (fun b=>decide (b<W.heap.size)) true 3 v3 d3 p3:=
  fun W' hn=>Below.trod Tryz.laidA (by kernel_rfl) (of_decide_eq_true (by kernel_rfl)) h3k hn (fun x hx=>hlt x (List.mem_append_right _ (List.mem_append_right _ (List.mem_append_right _ (List.mem_append_left _ hx)))))
 have hargs4:∀(W':World),Below W.heap.size W W'->DataW.Trod enc Tryz.prog W' 0 (fun b=>decide (b<W.heap.size)) true 3 v4 d4 p4:=
  fun W' hn=>Below.trod Tryz.laidA (by kernel_rfl) (of_decide_eq_true (by kernel_rfl)) h4k hn (fun x hx=>hlt x (List.mem_append_right _ (List.mem_append_right _ (List.mem_append_right _ (List.mem_append_right _ hx)))))
 obtain⟨V0,l0,e0,hs0,how0⟩:=V1c hf0;have e0':Value.slice a0 n0 m0=V0:=by simpa [Value.cells]using e0
 subst e0';obtain⟨k1,e1,_,w1⟩:=DataW.trod_int Tryz.underlying3 hf1;have e1':v1= .int .i64 k1:=by obtain⟨q1,rfl⟩:=okWide_int Tryz.underlying3 (hval 1 3 v1 rfl rfl);simpa [Value.cells]using e1
 subst e1';obtain⟨V2,l2,e2,hs2,how2⟩:=X7d hf2;have e2':Value.slice a2 n2 m2=V2:=by simpa [Value.cells]using e2
 subst e2';obtain⟨k3,e3,_,w3⟩:=DataW.trod_int Tryz.underlying3 hf3;have e3':v3= .int .i64 k3:=by obtain⟨q1,rfl⟩:=okWide_int Tryz.underlying3 (hval 3 3 v3 rfl rfl);simpa [Value.cells]using e3
 subst e3';obtain⟨k4,e4,_,w4⟩:=DataW.trod_int Tryz.underlying3 hf4;have e4':v4= .int .i64 k4:=by obtain⟨q1,rfl⟩:=okWide_int Tryz.underlying3 (hval 4 3 v4 rfl rfl);simpa [Value.cells]using e4
 subst e4';refine(Y3a X2z _ _ l0 l2 k1 k3 k4 W hs0 how0 hs2 how2 (Y2r w3)).mono fun e W' ⟨he,hnx⟩=> ?_;subst he;refine⟨_,rfl,_,_,_,[],p0++(p1++(p2++(p3++p4))),[],hW',?_,?_,rfl,hnx.frame _,fun h=>by cases h⟩
 ·exact trodAll_mk1 (shut_bool Tryz.underlying4 true)
 ·exact⟨_,_,hargs0 _ hnx,trodAll_mk4 (hargs1 _ hnx) (hargs2 _ hnx) (hargs3 _ hnx) (hargs4 _ hnx),rfl⟩
end Go.Proofs.YtmiolpfanlpfnaaGreat
