/- The iterator of a tree of one leaf, or none (From). Conditions: a page that bears a leaf. -/
import Derived.Test.YtmiolpfanlpfnaaGreatU25
set_option linter.unusedSimpArgs false
set_option linter.unusedVariables false
namespace Go.Proofs.YtmiolpfanlpfnaaGreat
open Go.RowKit
theorem Y8j{P:Program}{l m:Nat}{args:Array Value}{W:World}{R:Ending→World→Prop}(h:YieldAt Fence.wide m P l args W R):YieldAt Fence.wide 0 P l args W R:=by
 obtain⟨fn,tmps,assign,body,h1,h2⟩:=h
 exact⟨fn,tmps,assign,body,h1,h2.1,fun c cs _=>h2.2 c cs (room_wide _)⟩
theorem Y5j{p t i:Nat}{S:StoreD}{K F F1 G:Nat→Prop}{W w1:World}{α:Type}{J:α→(Nat→Prop)→World→Prop}{pre:α}(hit:ItT p t i S K F W)(hd:Dis F G W)(hJ:Z5t J)(h0:J pre G W)(hp:PagerAt w1 p F1 S)(hk:Keeps F F1 W w1):
  ∃F2,ItT p t i S K F2 w1∧Dis F2 G w1∧Keeps (Un F G) (Un F2 G) W w1∧J pre G w1∧Keeps F F2 W w1:=by
 have hk2:Keeps F (fun i=>F1 i∧i<w1.heap.size) W w1:=hk.shrink
 refine⟨fun i=>F1 i∧i<w1.heap.size,hit.keeps hp.shrink hk2,⟨fun i q=>q.2,fun i q=>⟨Nat.lt_of_lt_of_le (hd.2 i q).1 hk.only.size,hk2.out (hd.2 i q).1 (hd.2 i q).2⟩⟩,⟨hk.only.mono (fun i q=> .inl (.inl q)),fun i q=> ?_⟩,hJ _ _ _ _ h0 (fun i q=>(hd.2 i q).1) (hk.only.mono (fun i q=> .inl (fun r=>(hd.2 i r).2 q))),hk2⟩
 rcases q with q | q
 ·rcases hk2.new i q with r | r
  ·exact .inl (.inl r)
  ·exact .inr r
 ·exact .inl (.inr q)
def SeqB(P:Program)(n g:Nat)(lb:Array Value)(It:(Nat→Prop)→World→Prop)(out:List KV)(w:World):Prop:=
 SeqO Fence.wide n P g lb V7e It (fun xs=>xs=out) (fun pre=>pre <+: out) (fun pre x=>pre++ [x] <+: out) w
section
variable {P:Program} {ops:Array Oper} {Q:Exit→Act→World→Prop} {S:World→Prop}
theorem X7q{o:Oper}{a:Act}{K:Act→World→Prop}(l n:Nat):∀r,askW P o a K Q r→o.uponIn (Fence.wide.inRound l) n P a K Q r:=fun r hh=>by
 have hd:(Fence.wide.inRound l).depth.isSome=true→1≤n:=fun q=>by simp[Fence.wide,Fence.inRound]at q
 cases r with
 | ok x w'=>
   cases x<;>simp only[askW,Oper.upon,Oper.uponIn]at hh ⊢
   case value v=>exact hh
   case skip=>exact hh
   case defer d=>exact hh
   case enter f args=>exact⟨hd,CallsIn.inRound l ((callsIn_wide (n:=n-1)).2 hh)⟩
   case row row args=>
    refine⟨hd,fun c cs _=> ?_⟩
    obtain⟨v,w'',h1,h2⟩:=hh c cs
    exact⟨v,w'',h1,stepsIn_wide.2 h2⟩
   case round l f tmps assign body=>exact⟨hd,hh.1,fun c cs _=>hh.2 c cs (room_wide _)⟩
 | halt x w'=>cases x<;>simp only[askW,Oper.upon,Oper.uponIn]at hh ⊢ <;>exact hh
theorem X1q(l n:Nat)(hnd:∀(i:Nat) (o:Oper),ops[i]? =some o→∀c,o.op≠ .defer c)(i:Nat)(rest:List Nat)(a:Act)(w:World)(h:opW P ops Q i (wpOpsIn (Fence.wide.inRound l) n P ops Q rest) a w):wpOpsIn (Fence.wide.inRound l) n P ops Q (i::rest) a w:=by
 unfold opW at h
 simp only[wpOpsIn]
 cases ho:ops[i]? with
 | none=>simp only[ho]at h;exact h
 | some o=>
   simp only[ho]at h ⊢
   split
   ·rename_i hw
    simp only[hw,if_true]at h
    refine⟨fun _ _=>trivial,?_⟩
    rw[Oper.semAt_eq _ _ _ (hnd i o ho)]
    exact X7q l n _ h
   ·rename_i hw
    simp only[hw]at h
    exact⟨fun _ _=>trivial,h⟩
theorem X0u(l n:Nat)(hnd:∀(i:Nat) (o:Oper),ops[i]? =some o→∀c,o.op≠ .defer c):∀(fuel t:Nat) (listed:Array Bool) (a:Act) (w:World),anyW P ops Q S fuel listed a w→wpOpsIn (Fence.wide.inRound l) n P ops Q (Region.linearise.go .any ops fuel t listed []) a w:=by
 intro fuel
 induction fuel with
 | zero=>intro t listed a w h;simpa [Region.linearise.go,wpOpsIn]using h.2
 | succ fuel ih=>
   intro t listed a w h
   obtain⟨h0,h1⟩:=h
   simp only[Region.linearise.go]
   change wpOpsIn (Fence.wide.inRound l) n P ops Q (match (Region.ready .any ops listed)[t%(Region.ready .any ops listed).length]? with
    | some i=>Region.linearise.go .any ops fuel (t/(Region.ready .any ops listed).length) (listed.setIfInBounds i true) [i]
    | none=> [].reverse) a w
   cases hi:(Region.ready .any ops listed)[t%(Region.ready .any ops listed).length]? with
   | none=>
     have hnil:Region.ready .any ops listed= []:=by
      cases hr:Region.ready .any ops listed with
      | nil=>rfl
      | cons x xs=>
        rw[hr,List.getElem?_eq_none_iff]at hi
        exact absurd (Nat.mod_lt t (show 0<(x::xs).length by simp)) (by omega)
     simpa [wpOpsIn]using h0 hnil
   | some i=>
     simp only[]
     rw[linearise_go_acc,List.reverse_singleton,List.singleton_append]
     exact X1q l n hnd _ _ _ _ (Y7h (fun a w q=>ih _ _ a w q.2) (h1 i (List.mem_of_getElem? hi)))
def V9u(ops:Array Oper):Bool:=ops.toList.all fun o=>match o.op with | .defer _=>false | _=>true
theorem X6o(h:V9u ops=true):∀(i:Nat) (o:Oper),ops[i]? =some o→∀c,o.op≠ .defer c:=fun i o ho c e=>by
 unfold V9u at h
 rw[List.all_eq_true]at h
 have h1:=h o (by rw[Array.mem_toList_iff];exact Array.mem_of_getElem? ho)
 rw[e]at h1
 cases h1
theorem V4w{id:Nat}{a:Act}{w:World}{l n:Nat}(hm:P.follows .mixedOrders=true)(hnd:V9u ops=true)(hS:S w.drew)
 (h:S w.drew→anyW P ops Q S ops.size (Array.replicate ops.size false) a w.drew):(Code.region id ops true).wpIn (Fence.wide.inRound l) n P Q a w:=by
 refine wpIn_region_draw fun t=> ?_
 simp only[Region.schedule,hm,Bool.true_or,if_true]
 exact X0u l n (X6o hnd) ops.size t _ a _ (h hS)
theorem U0n{o:Oper}{a:Act}{K:Act→World→Prop}:∀r,o.upon P a K Q r→askW P o a K Q r:=fun r hh=>by
 cases r with
 | ok x w'=>cases x<;>first | exact hh | exact hh.elim
 | halt x w'=>exact hh
def AllReadyW(P:Program)(ops:Array Oper)(Q:Exit→Act→World→Prop)(S:World→Prop)(fuel:Nat)(listed:Array Bool)(a:Act)(w:World)(rs:List Nat):Prop:=
 ∀i∈rs,opW P ops Q i (fun a' w'=>S w'∧anyW P ops Q S fuel (listed.setIfInBounds i true) a' w') a w
theorem AllReadyW.nil{fuel:Nat}{listed:Array Bool}{a:Act}{w:World}:AllReadyW P ops Q S fuel listed a w []:=fun _ h=>by cases h
theorem AllReadyW.cons{fuel:Nat}{listed:Array Bool}{a:Act}{w:World}{i:Nat}{o:Oper}{rs:List Nat}(ho:ops[i]? =some o)
 (h:∀K':Act→World→Prop,Shut (∀a w,S w→(S w→anyW P ops Q S fuel (listed.setIfInBounds i true) a w)→K' a w)→if Region.wanted o (yielded ops a.tmps)=true then Oper.wp P o a w K' Q else K' (a.put o.dst undef) w)
 (hs:AllReadyW P ops Q S fuel listed a w rs):AllReadyW P ops Q S fuel listed a w (i::rs):=fun j hj=>by
 rcases List.mem_cons.1 hj with rfl | hj
 ·have h1:=h _ (fun a w h1 h2=>⟨h1,h2 h1⟩:Shut (∀a w,S w→(S w→anyW P ops Q S fuel (listed.setIfInBounds j true) a w)→(S w∧anyW P ops Q S fuel (listed.setIfInBounds j true) a w)))
  unfold opW
  simp only[ho]
  split
  ·rename_i hw
   rw[if_pos hw]at h1
   exact U0n _ h1
  ·rename_i hw
   rw[if_neg hw]at h1
   exact h1
 ·exact hs j hj
theorem Y6i{rs:List Nat}{fuel:Nat}{listed:Array Bool}{a:Act}{w:World}(hr:Region.ready .any ops listed=rs)(hne:rs≠ [])
 (h:AllReadyW P ops Q S fuel listed a w rs):anyW P ops Q S (fuel+1) listed a w:=⟨fun h0=>absurd (hr.symm.trans h0) hne,fun i hi=>h i (hr▸hi)⟩
theorem stpW(i:Nat){o:Oper}{fuel:Nat}{listed:Array Bool}{a:Act}{w:World}
 (h:∀K':Act→World→Prop,Shut (∀a w,S w→(S w→anyW P ops Q S fuel (listed.setIfInBounds i true) a w)→K' a w)→if Region.wanted o (yielded ops a.tmps)=true then Oper.wp P o a w K' Q else K' (a.put o.dst undef) w)
 (hr:Region.ready .any ops listed= [i]:=by kernel_rfl)(ho:ops[i]? =some o:=by exact rfl):anyW P ops Q S (fuel+1) listed a w:=
 Y6i hr (by simp) (AllReadyW.cons ho h AllReadyW.nil)
def V5t(K:Act→World→Prop):Exit→Act→World→Prop
 | .normal,a,w=>K a w
 | _,_,_=>False
theorem Y5b{F:Fence}{n:Nat}{c:Code}{K:Act→World→Prop}{a:Act}{w:World}(h:c.wpIn F n P (V5t K) a w):c.wpIn F n P (Exit.then K Q) a w:=
 wpIn_mono h (by
  intro e a w q
  cases e<;>first | exact q | exact q.elim)
end
end Go.Proofs.YtmiolpfanlpfnaaGreat
