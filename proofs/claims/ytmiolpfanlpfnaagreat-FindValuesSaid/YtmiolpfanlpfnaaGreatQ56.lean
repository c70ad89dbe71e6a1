/- The law FindValues, lifted to arguments that are read. No conditions. -/
import Derived.Test.YtmiolpfanlpfnaaGreatQ53
import Derived.Test.YtmiolpfanlpfnaaGreatQ22
set_option maxRecDepth 100000
set_option maxHeartbeats 1000000
namespace Go.Proofs.YtmiolpfanlpfnaaGreat
set_option linter.unusedSimpArgs false
set_option linter.unusedVariables false
open Go.ChangeShapes Go.WideShapes Go.ChangeAt Go.RowKit
theorem Y0o(os:Os)(started:os.Started)(H:Type)(enc:TypeId×Value→H):
  ReturnsInHanded {} Tryz.checked os 8 .any (Rows.findValuesSpec.pre6 enc Tryz.prog Tryz.f8 Rows.findValuesRow.domain false) (Rows.findValuesSpec.post enc Tryz.prog Tryz.f8 false true false false):=by
 refine returnsInHanded_of_change (C:=Tryz.checked) Tryz.own started (by kernel_rfl) Tryz.func8
  (ChangeSpec.witness6 (enc:=enc) (C:=Tryz.checked) false ⟨#[],#[.agg #[.int .i64 0,.int .i64 0,.int .i64 0,.int .i64 0,.int .i64 0,.int .i64 0,.int .i64 0,.bool false,.int .i64 0,.int .i64 0,.int .i64 0],.string ByteArray.empty,.agg #[.int .i64 0,.slice none 0 0,.string ByteArray.empty,.string ByteArray.empty,.int .i64 0]],[]⟩ 8 (by kernel_rfl) (by kernel_rfl) (by kernel_rfl) (by kernel_rfl)) ?_
 intro W base args ds gs before hval0 hW hcnd _
 have hval:∀(j:Nat) t v,Tryz.f8.params[j]? =some t→args[j]? =some v→Value.okWide Tryz.prog W .any base t v:=hval0
 have hW':=hW
 obtain⟨p,q,hA0,hV,rfl,hfz,hnd⟩:=hW
 have hA:DataW.TrodAll enc Tryz.prog W 0 (fun _=>true) true Tryz.f8.params.toList args.toList ds p:=hA0
 rw[Tryz.params8]at hA hval
 obtain⟨v0,v1,v2,d0,d1,d2,p0,p1,p2,rfl,rfl,rfl,h0,h1,h2⟩:=trodAll_three hA
 obtain⟨rfl,rfl⟩:=trodVars_none hV
 obtain⟨cs0,rfl,_⟩:=okWide_struct Tryz.underlying32 (hval 0 32 v0 rfl rfl)
 obtain⟨cs2,rfl,_⟩:=okWide_struct Tryz.underlying50 (hval 2 50 v2 rfl rfl)
 have h0k:=h0
 have h1k:=h1
 have h2k:=h2
 obtain⟨fuel0,hf0⟩:=h0
 obtain⟨fuel1,hf1⟩:=h1
 obtain⟨fuel2,hf2⟩:=h2
 clear hA0 hval0
 simp only[List.append_nil,List.append_assoc]at hW'
 have hlt:∀x∈p0++(p1++p2),x.block<W.heap.size:=fun x hx=>by simpa using hW'.lt x hx
 have hargs0:∀(W':World),Below W.heap.size W W'→DataW.Trod enc Tryz.prog W' 0 (fun b=>decide (b<W.heap.size)) true 32 (.agg cs0) d0 p0:=
  fun W' hn=>Below.trod Tryz.laidOut (by kernel_rfl) (of_decide_eq_true (by kernel_rfl)) h0k hn (fun x hx=>hlt x (List.mem_append_left _ hx))
 have hargs1:∀(W':World),Below W.heap.size W W'→DataW.Trod enc Tryz.prog W' 0 (fun b=>decide (b<W.heap.size)) true 9 v1 d1 p1:=
  fun W' hn=>Below.trod Tryz.laidOut (by kernel_rfl) (of_decide_eq_true (by kernel_rfl)) h1k hn (fun x hx=>hlt x (List.mem_append_right _ (List.mem_append_left _ hx)))
 have hargs2:∀(W':World),Below W.heap.size W W'→DataW.Trod enc Tryz.prog W' 0 (fun b=>decide (b<W.heap.size)) true 50 (.agg cs2) d2 p2:=
  fun W' hn=>Below.trod Tryz.laidOut (by kernel_rfl) (of_decide_eq_true (by kernel_rfl)) h2k hn (fun x hx=>hlt x (List.mem_append_right _ (List.mem_append_right _ hx)))
 obtain⟨o,ho,how⟩:=V0g fuel0 hf0
 obtain⟨s1,e1,_,_⟩:=DataW.trod_string Tryz.underlying9 hf1
 obtain⟨n,hn,hd⟩:=Y9r fuel2 hf2
 have e1':v1= .string s1:=by
  obtain⟨q1,rfl⟩:=okWide_string Tryz.underlying9 (hval 1 9 v1 rfl rfl)
  simpa [Value.cells]using e1
 subst e1'
 have hcs0:cs0=o.cells.toArray:=by
  have:cs0.toList=o.cells:=by simpa [Value.cells,ROp]using ho
  rw[←this]
 subst hcs0
 have hcs2:cs2=n.cells.toArray:=by
  have:=hn.1
  simp[Value.cells]at this
  rw[←this]
 subst hcs2
 obtain⟨t,ht⟩:=NOk.tree _ _ hd
 obtain⟨nA,nm,nc,hnk⟩:=hn.2.2.2
 obtain⟨nk,nkids,nf,ns,nv⟩:=n
 dsimp only at hnk
 subst hnk
 refine(Y0p Z8c o s1 _ t nk nA nm nc nf ns nv W ⟨rfl,hn.2⟩ ht).mono fun e W' ⟨he,hnx⟩=> ?_
 subst he
 refine⟨_,rfl,_,_,_,[],p0++(p1++p2),[],hW',?_,?_,rfl,hnx.frame _,fun h=>by cases h⟩
 ·exact trodAll_mk1 (shut_bool Tryz.underlying4 true)
 ·exact trodAll_mk3 (hargs0 _ hnx) (hargs1 _ hnx) (hargs2 _ hnx)
end Go.Proofs.YtmiolpfanlpfnaaGreat
