/- The law ScanPaths, lifted to arguments that are read. No conditions. -/
import Derived.Test.YtmiolpfanlpfnaaGreatP51
import Derived.Test.YtmiolpfanlpfnaaGreatP20
set_option maxRecDepth 100000
set_option maxHeartbeats 1000000
set_option linter.unusedSimpArgs false
set_option linter.unusedVariables false
namespace Go.Proofs.YtmiolpfanlpfnaaGreat
open Go.ChangeShapes Go.WideShapes Go.ChangeAt Go.RowKit
theorem Y1q(os:Os)(started:os.Started)(H:Type)(enc:TypeId×Value→H):
  ReturnsInHanded {} Tryz.checked os 6 .any (Rows.scanPathsSpec.pre6 enc Tryz.prog Tryz.f6 Rows.scanPathsRow.domain false) (Rows.scanPathsSpec.post enc Tryz.prog Tryz.f6 false true false false):=by
 refine returnsInHanded_of_change (C:=Tryz.checked) Tryz.own started (by kernel_rfl) Tryz.func6
  (ChangeSpec.witness6 (enc:=enc) (C:=Tryz.checked) false ⟨#[],#[.slice none 0 0,.agg #[.int .i64 0,.slice none 0 0,.string ByteArray.empty,.string ByteArray.empty,.int .i64 0]],[]⟩ 8 (by kernel_rfl) (by kernel_rfl) (by kernel_rfl) (by kernel_rfl)) ?_
 intro W base args ds gs before hval0 hW hcnd _
 have hval:∀(j:Nat) t v,Tryz.f6.params[j]? =some t→args[j]? =some v→Value.okWide Tryz.prog W .any base t v:=hval0
 have hW':=hW
 obtain⟨p,q,hA0,hV,rfl,hfz,hnd⟩:=hW
 have hA:DataW.TrodAll enc Tryz.prog W 0 (fun _=>true) true Tryz.f6.params.toList args.toList ds p:=hA0
 rw[Tryz.params6]at hA hval
 obtain⟨v0,v2,d0,d2,p0,p2,rfl,rfl,rfl,h0,h2⟩:=trodAll_two hA
 obtain⟨rfl,rfl⟩:=trodVars_none hV
 obtain⟨a0,n0,m0,rfl⟩:=okWide_slice Tryz.underlying30 (hval 0 30 v0 rfl rfl)
 obtain⟨cs2,rfl,_⟩:=okWide_struct Tryz.underlying50 (hval 1 50 v2 rfl rfl)
 have h0k:=h0
 have h2k:=h2
 obtain⟨fuel0,hf0⟩:=h0
 obtain⟨fuel2,hf2⟩:=h2
 clear hA0 hval0
 simp only[List.append_nil,List.append_assoc]at hW'
 have hlt:∀x∈p0++p2,x.block<W.heap.size:=fun x hx=>by simpa using hW'.lt x hx
 have hargs0:∀(W':World),Below W.heap.size W W'→DataW.Trod enc Tryz.prog W' 0 (fun b=>decide (b<W.heap.size)) true 30 (.slice a0 n0 m0) d0 p0:=
  fun W' hn=>Below.trod Tryz.laidOut (by kernel_rfl) (of_decide_eq_true (by kernel_rfl)) h0k hn (fun x hx=>hlt x (List.mem_append_left _ hx))
 have hargs2:∀(W':World),Below W.heap.size W W'→DataW.Trod enc Tryz.prog W' 0 (fun b=>decide (b<W.heap.size)) true 50 (.agg cs2) d2 p2:=
  fun W' hn=>Below.trod Tryz.laidOut (by kernel_rfl) (of_decide_eq_true (by kernel_rfl)) h2k hn (fun x hx=>hlt x (List.mem_append_right _ hx))
 obtain⟨V,l,e0,hs,how⟩:=V5u hf0
 obtain⟨n,hn,hd⟩:=V0s fuel2 hf2
 have e0':Value.slice a0 n0 m0=V:=by simpa [Value.cells]using e0
 subst e0'
 have hcs2:cs2=n.cells.toArray:=by
  have:=hn.1
  simp[Value.cells]at this
  rw[←this]
 subst hcs2
 obtain⟨t,ht⟩:=NOk.tree _ _ hd
 obtain⟨nA,nm,nc,hnk⟩:=hn.2.2.2
 obtain⟨nk,nkids,nf,ns,nv⟩:=n
 dsimp only at hnk
 subst hnk
 refine(Y1r _ l _ t nk nA nm nc nf ns nv W hs (fun o ho=>X5b (how o ho).result) ⟨rfl,hn.2⟩ ht).mono fun e W' ⟨he,hnx⟩=> ?_
 subst he
 refine⟨_,rfl,_,_,_,[],p0++p2,[],hW',?_,?_,rfl,hnx.frame _,fun h=>by cases h⟩
 ·exact trodAll_mk1 (shut_bool Tryz.underlying4 true)
 ·exact trodAll_mk2 (hargs0 _ hnx) (hargs2 _ hnx)
end Go.Proofs.YtmiolpfanlpfnaaGreat
