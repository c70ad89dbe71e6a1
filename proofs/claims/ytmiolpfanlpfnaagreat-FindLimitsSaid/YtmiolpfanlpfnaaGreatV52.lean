/- The law FindLimits, lifted to arguments that are read. No conditions. -/
import Derived.Test.YtmiolpfanlpfnaaGreatV50
import Derived.Test.YtmiolpfanlpfnaaGreatV21
set_option maxRecDepth 100000
set_option maxHeartbeats 1000000
set_option linter.unusedSimpArgs false
set_option linter.unusedVariables false
namespace Go.Proofs.YtmiolpfanlpfnaaGreat
open Go.ChangeShapes Go.WideShapes Go.ChangeAt Go.RowKit
theorem Y0l(os:Os)(started:os.Started)(H:Type)(enc:TypeId×Value→H):
  ReturnsInHanded {} Tryz.checked os 12 .any (Rows.findLimitsSpec.pre6 enc Tryz.prog Tryz.f12 Rows.findLimitsRow.domain false) (Rows.findLimitsSpec.post enc Tryz.prog Tryz.f12 false true false false):=by
 refine returnsInHanded_of_change (C:=Tryz.checked) Tryz.own started (by kernel_rfl) Tryz.func12
  (ChangeSpec.witness6 (enc:=enc) (C:=Tryz.checked) false ⟨#[],#[.slice none 0 0,.agg #[.int .i64 0,.slice none 0 0,.string ByteArray.empty,.string ByteArray.empty,.int .i64 0,.string ByteArray.empty,.bool false,.int .i64 0,.bool false],.int .i64 0],[]⟩ 8 (by kernel_rfl) (by kernel_rfl) (by kernel_rfl) (by kernel_rfl)) ?_
 intro W base args ds gs before hval0 hW hcnd _
 have hval:∀(j:Nat) t v,Tryz.f12.params[j]? =some t→args[j]? =some v→Value.okWide Tryz.prog W .any base t v:=hval0
 have hW':=hW
 obtain⟨p,q,hA0,hV,rfl,hfz,hnd⟩:=hW
 have hA:DataW.TrodAll enc Tryz.prog W 0 (fun _=>true) true Tryz.f12.params.toList args.toList ds p:=hA0
 rw[Tryz.params12]at hA hval
 obtain⟨v0,v2,v3,d0,d2,d3,p0,p2,p3,rfl,rfl,rfl,h0,h2,h3⟩:=trodAll_three hA
 obtain⟨rfl,rfl⟩:=trodVars_none hV
 obtain⟨a0,n0,m0,rfl⟩:=okWide_slice Tryz.underlying30 (hval 0 30 v0 rfl rfl)
 obtain⟨cs2,rfl,_⟩:=okWide_struct Tryz.underlying69 (hval 1 69 v2 rfl rfl)
 have h0k:=h0
 have h2k:=h2
 have h3k:=h3
 obtain⟨fuel0,hf0⟩:=h0
 obtain⟨fuel2,hf2⟩:=h2
 obtain⟨fuel3,hf3⟩:=h3
 clear hA0 hval0
 simp only[List.append_nil,List.append_assoc]at hW'
 have hlt:∀x∈p0++(p2++p3),x.block<W.heap.size:=fun x hx=>by simpa using hW'.lt x hx
 have hargs0:∀(W':World),Below W.heap.size W W'→DataW.Trod enc Tryz.prog W' 0 (fun b=>decide (b<W.heap.size)) true 30 (.slice a0 n0 m0) d0 p0:=
  fun W' hn=>Below.trod Tryz.laidOut (by kernel_rfl) (of_decide_eq_true (by kernel_rfl)) h0k hn (fun x hx=>hlt x (List.mem_append_left _ hx))
 have hargs2:∀(W':World),Below W.heap.size W W'→DataW.Trod enc Tryz.prog W' 0 (fun b=>decide (b<W.heap.size)) true 69 (.agg cs2) d2 p2:=
  fun W' hn=>Below.trod Tryz.laidOut (by kernel_rfl) (of_decide_eq_true (by kernel_rfl)) h2k hn (fun x hx=>hlt x (List.mem_append_right _ (List.mem_append_left _ hx)))
 have hargs3:∀(W':World),Below W.heap.size W W'→DataW.Trod enc Tryz.prog W' 0 (fun b=>decide (b<W.heap.size)) true 3 v3 d3 p3:=
  fun W' hn=>Below.trod Tryz.laidOut (by kernel_rfl) (of_decide_eq_true (by kernel_rfl)) h3k hn (fun x hx=>hlt x (List.mem_append_right _ (List.mem_append_right _ hx)))
 obtain⟨V,l,e0,hs,how⟩:=X3e hf0
 obtain⟨qn,ord,down,limit,count,hq,hqn,hql,dq,hqd⟩:=Y5d fuel2 hf2
 obtain⟨k1,e1,_,w1⟩:=DataW.trod_int Tryz.underlying3 hf3
 have e1':v3= .int .i64 k1:=by
  obtain⟨q1,rfl⟩:=okWide_int Tryz.underlying3 (hval 2 3 v3 rfl rfl)
  simpa [Value.cells]using e1
 subst e1'
 have e0':Value.slice a0 n0 m0=V:=by simpa [Value.cells]using e0
 subst e0'
 obtain⟨t,ht⟩:=NOk.tree _ _ hqd
 obtain⟨qA,qm,qc,hqk⟩:=hqn.2.2.2
 obtain⟨qk,qkids,qf,qs,qv⟩:=qn
 dsimp only at hqk
 subst hqk
 have hq2:cs2.toList= [Value.int .i64 qk,Value.slice qA qm qc,Value.string qf,Value.string qs,Value.int .i64 qv,Value.string ord,Value.bool down,Value.int .i64 limit,Value.bool count]:=by simpa [Value.cells,NCell.cells]using hq
 obtain⟨cl2⟩:=cs2
 simp only at hq2
 subst hq2
 refine(Y0m Y4a _ l dq t qk qA qm qc qf qs qv ord down limit count k1 W hs (fun o ho=>Z7n (how o ho).result) hqn ht (Z7n w1)).mono fun e W' ⟨he,hnx⟩=> ?_
 subst he
 refine⟨_,rfl,_,_,_,[],p0++(p2++p3),[],hW',?_,?_,rfl,hnx.frame _,fun h=>by cases h⟩
 ·exact trodAll_mk1 (shut_bool Tryz.underlying4 true)
 ·exact trodAll_mk3 (hargs0 _ hnx) (hargs2 _ hnx) (hargs3 _ hnx)
end Go.Proofs.YtmiolpfanlpfnaaGreat
