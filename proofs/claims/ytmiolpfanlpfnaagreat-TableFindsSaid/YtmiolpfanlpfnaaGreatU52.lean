/- Arguments that are read: lists of acts. No conditions. -/
import Derived.Test.YtmiolpfanlpfnaaGreatU17
import Derived.Test.YtmiolpfanlpfnaaGreatU51
import Derived.Test.YtmiolpfanlpfnaaGreatU43
set_option maxRecDepth 100000
set_option maxHeartbeats 1000000
set_option linter.unusedSimpArgs false
set_option linter.unusedVariables false
namespace Go.Proofs.YtmiolpfanlpfnaaGreat
open Go.ChangeShapes Go.WideShapes Go.ChangeAt Go.RowKit
theorem Tryz.ownA:ownKnob Tryz.prog.godebug=none:=by kernel_rfl
theorem Tryz.laidA:laidOutB Tryz.prog=true:=by kernel_rfl
section
variable {H:Type} {enc:TypeId×Value→H} {w:World} {spare:Nat→Bool} {held:Bool}
theorem Tryz.act12:Tryz.prog.cellsOf 34=12:=by kernel_rfl
theorem V5q(fuel:Nat){cs:List Value}{x:DataW H×List MemPlace}(h:DataW.trod enc Tryz.prog w 0 spare held fuel 34 cs=some x):∃a:Int×OpD,RAct a cs∧In64 a.2.id∧In64 a.2.result:=by
 obtain⟨xs,k,rfl,_,hcl,hxl,hg⟩:=DataW.trod_struct Tryz.underlying34 h
 rw[Tryz.act12]at hcl
 match cs,hcl,xs,hxl with
 | [c0,c1,c2,c3,c4,c5,c6,c7,c8,c9,c10,c11],_,[y0,y1],_=>
   have g0:=hg 0 _ rfl
   have g1:=hg 1 _ rfl
   clear hg h hxl hcl
   simp[Tryz.cInt,Tryz.op11]at g0 g1
   obtain⟨n0,e0,_,_⟩:=DataW.trod_int Tryz.underlying3 g0
   obtain⟨o,ho,how⟩:=V9p _ g1
   simp only[List.cons.injEq,and_true]at e0
   subst e0
   exact⟨(n0,o),by show _=_::o.cells;rw[←show _=o.cells from ho],Y8c how.id,Y8c how.result⟩
theorem V0k{fuel:Nat}{cs:List Value}{x:DataW H×List MemPlace}(h:DataW.trod enc Tryz.prog w 0 spare held fuel 22 cs=some x):∃v l,cs= [v]∧Sl w 12 RAct v l∧∀a∈l,In64 a.2.id∧In64 a.2.result:=by
 obtain⟨v,l,e,hs⟩:=V0j (fun (a:Int×OpD) cs=>RAct a cs∧In64 a.2.id∧In64 a.2.result) Tryz.underlying22 Tryz.act12 (by omega) (fun m cs x _ hx=>V5q m hx) h
 exact⟨v,l,e,hs.mono (fun _ _ h=>h.1),fun o ho=>by obtain⟨_,_,h⟩:=hs.all o ho;exact h⟩
theorem X6n{fuel:Nat}{cs:List Value}{x:DataW H×List MemPlace}(h:DataW.trod enc Tryz.prog w 0 spare held fuel 23 cs=some x):∃v l,cs= [v]∧Sl w 1 RIn v l∧∀x∈l,In64 x:=by
 obtain⟨v,ys,rfl,hsl⟩:=V0j (fun (a:Int) cs=>RIn a cs∧In64 a) Tryz.underlying23 Tryz.cInt (by omega) (fun m cs x _ hx=>by
  obtain⟨n0,e0,_,w0⟩:=DataW.trod_int Tryz.underlying3 hx
  exact⟨n0,e0,Y8c w0⟩) h
 exact⟨v,ys,rfl,hsl.mono (fun _ _ h=>h.1),fun o ho=>by obtain⟨_,_,h⟩:=hsl.all o ho;exact h⟩
end
theorem Y0b(os:Os)(started:os.Started)(H:Type)(enc:TypeId×Value→H):
  ReturnsInHanded {} Tryz.checked os 3 .any (Rows.tableFindsSpec.pre6 enc Tryz.prog Tryz.f3 Rows.tableFindsRow.domain false) (Rows.tableFindsSpec.post enc Tryz.prog Tryz.f3 false true false false):=by
 refine returnsInHanded_of_change (C:=Tryz.checked) Tryz.ownA started (by kernel_rfl) Tryz.func3
  (ChangeSpec.witness6 (enc:=enc) (C:=Tryz.checked) false ⟨#[],#[.slice none 0 0,.int .i64 0,.slice none 0 0,.int .i64 0],[]⟩ 8 (by kernel_rfl) (by kernel_rfl) (by kernel_rfl) (by kernel_rfl)) ?_
 intro W base args ds gs before hval0 hW hcnd _
 have hval:∀(j:Nat) t v,Tryz.f3.params[j]? =some t→args[j]? =some v→Value.okWide Tryz.prog W .any base t v:=hval0
 have hW':=hW
 obtain⟨p,q,hA0,hV,rfl,hfz,hnd⟩:=hW
 have hA:DataW.TrodAll enc Tryz.prog W 0 (fun _=>true) true Tryz.f3.params.toList args.toList ds p:=hA0
 rw[Tryz.params3]at hA hval
 obtain⟨v0,v1,v2,v3,d0,d1,d2,d3,p0,p1,p2,p3,rfl,rfl,rfl,h0,h1,h2,h3⟩:=trodAll_four hA
 obtain⟨rfl,rfl⟩:=trodVars_none hV
 obtain⟨a0,n0,m0,rfl⟩:=okWide_slice Tryz.underlying22 (hval 0 22 v0 rfl rfl)
 obtain⟨a2,n2,m2,rfl⟩:=okWide_slice Tryz.underlying23 (hval 2 23 v2 rfl rfl)
 have h0k:=h0
 obtain⟨fuel0,hf0⟩:=h0
 have h1k:=h1
 obtain⟨fuel1,hf1⟩:=h1
 have h2k:=h2
 obtain⟨fuel2,hf2⟩:=h2
 have h3k:=h3
 obtain⟨fuel3,hf3⟩:=h3
 clear hA0 hval0
 simp only[List.append_nil,List.append_assoc]at hW'
 have hlt:∀x∈p0++(p1++(p2++p3)),x.block<W.heap.size:=fun x hx=>by simpa using hW'.lt x hx
 have hargs0:∀(W':World),Below W.heap.size W W'→DataW.Trod enc Tryz.prog W' 0 (fun b=>decide (b<W.heap.size)) true 22 (.slice a0 n0 m0) d0 p0:=
  fun W' hn=>Below.trod Tryz.laidA (by kernel_rfl) (of_decide_eq_true (by kernel_rfl)) h0k hn (fun x hx=>hlt x (List.mem_append_left _ hx))
 have hargs1:∀(W':World),Below W.heap.size W W'→DataW.Trod enc Tryz.prog W' 0 (fun b=>decide (b<W.heap.size)) true 3 v1 d1 p1:=
  fun W' hn=>Below.trod Tryz.laidA (by kernel_rfl) (of_decide_eq_true (by kernel_rfl)) h1k hn (fun x hx=>hlt x (List.mem_append_right _ (List.mem_append_left _ hx)))
 have hargs2:∀(W':World),Below W.heap.size W W'→DataW.Trod enc Tryz.prog W' 0 (fun b=>decide (b<W.heap.size)) true 23 (.slice a2 n2 m2) d2 p2:=
  fun W' hn=>Below.trod Tryz.laidA (by kernel_rfl) (of_decide_eq_true (by kernel_rfl)) h2k hn (fun x hx=>hlt x (List.mem_append_right _ (List.mem_append_right _ (List.mem_append_left _ hx))))
 have hargs3:∀(W':World),Below W.heap.size W W'→DataW.Trod enc Tryz.prog W' 0 (fun b=>decide (b<W.heap.size)) true 3 v3 d3 p3:=
  fun W' hn=>Below.trod Tryz.laidA (by kernel_rfl) (of_decide_eq_true (by kernel_rfl)) h3k hn (fun x hx=>hlt x (List.mem_append_right _ (List.mem_append_right _ (List.mem_append_right _ hx))))
 obtain⟨V0,l0,e0,hs0,how0⟩:=V0k hf0
 have e0':Value.slice a0 n0 m0=V0:=by simpa [Value.cells]using e0
 subst e0'
 obtain⟨k1,e1,_,w1⟩:=DataW.trod_int Tryz.underlying3 hf1
 have e1':v1= .int .i64 k1:=by
  obtain⟨q1,rfl⟩:=okWide_int Tryz.underlying3 (hval 1 3 v1 rfl rfl)
  simpa [Value.cells]using e1
 subst e1'
 obtain⟨V2,l2,e2,hs2,how2⟩:=X6n hf2
 have e2':Value.slice a2 n2 m2=V2:=by simpa [Value.cells]using e2
 subst e2'
 obtain⟨k3,e3,_,w3⟩:=DataW.trod_int Tryz.underlying3 hf3
 have e3':v3= .int .i64 k3:=by
  obtain⟨q1,rfl⟩:=okWide_int Tryz.underlying3 (hval 3 3 v3 rfl rfl)
  simpa [Value.cells]using e3
 subst e3'
 refine(Y4s X2o _ _ l0 l2 k1 k3 W hs0 how0 hs2 how2).mono fun e W' ⟨he,hnx⟩=> ?_
 subst he
 refine⟨_,rfl,_,_,_,[],p0++(p1++(p2++p3)),[],hW',?_,?_,rfl,hnx.frame _,fun h=>by cases h⟩
 ·exact trodAll_mk1 (shut_bool Tryz.underlying4 true)
 ·exact trodAll_mk4 (hargs0 _ hnx) (hargs1 _ hnx) (hargs2 _ hnx) (hargs3 _ hnx)
end Go.Proofs.YtmiolpfanlpfnaaGreat
