/- A tree loses a record, at any depth: plain. No conditions. -/
import Derived.Test.YtmiolpfanlpfnaaGreatU29
set_option linter.unusedSimpArgs false
set_option linter.unusedVariables false
namespace Go.Proofs.YtmiolpfanlpfnaaGreat
open Go.RowKit
def Z2w:(d:Nat)→TT d→ByteArray→TT d→TT d
 | 0,a,_,b=>LeafT.mk (LeafT.at_ a) (LeafT.keys a++LeafT.keys b) (LeafT.vals a++LeafT.vals b)
 | _+1,a,s,b=>InT.mk (InT.at_ a) (InT.keys a++s::InT.keys b) (InT.kids a++InT.kids b)
def Z6j(d:Nat)(t:TT (d+1))(i:Nat)(c:TT d):TT (d+1):=InT.mk (InT.at_ t) ((InT.keys t).eraseIdx i) (((InT.kids t).set i c).eraseIdx (i+1))
def U0v(d:Nat)(S:StoreD)(t:TT (d+1))(i:Nat)(S':StoreD)(t':TT (d+1)):Prop:=
 ((InT.kids t).length<2∧S'=S∧t'=t)∨
 (2≤(InT.kids t).length∧∃a b s,(InT.kids t)[i]? =some a∧(InT.kids t)[i+1]? =some b∧(InT.keys t)[i]? =some s∧
   ((256<Z0m (Z0c d (Z2w d a s b))∧S'=S∧t'=t)∨
    (Z0m (Z0c d (Z2w d a s b))≤256∧S'=useP (layP (layP S (InT.at_ t) (Z0c (d+1) (Z6j d t i (Z2w d a s b)))) (atT d a) (Z0c d (Z2w d a s b))) (atT d b) false∧t'=Z6j d t i (Z2w d a s b))))
def V3e(t:LeafT)(k:ByteArray):LeafT:=⟨t.at_,(delN (Z0c 0 t) k).keys,(delN (Z0c 0 t) k).vals⟩
def Y1t:(d:Nat)→StoreD→TT d→ByteArray→StoreD→TT d→Prop
 | 0,S,t,k,S',t'=>S'=layP S (LeafT.at_ t) (Z0c 0 (V3e t k))∧t'=V3e t k
 | d+1,S,t,k,S',t'=>∃c,(InT.kids t)[Z0g (InT.keys t) k]? =some c∧∃S1 c',Y1t d S c k S1 c'∧U0v d S1 (InT.mk (InT.at_ t) (InT.keys t) ((InT.kids t).set (Z0g (InT.keys t) k) c')) (min (Z0g (InT.keys t) k) ((InT.kids t).length-2)) S' t'
structure LessL (d:Nat) (S:StoreD) (t:TT d) (l:List KV) (S':StoreD) (t':TT d) (G:List Nat):Prop where
 stp:Stp (fun b=>b∈Z0a d t) [] G S S'
 at_:atT d t'=atT d t
 on:onT S' d t'
 ok:okT d t'
 pages:(Z0a d t'++G).Perm (Z0a d t)
 list:Z0e d t'=l
 all:∀x∈allT d t',x∈allT d t
 sep:∀x∈sepT d t',x∈sepT d t
theorem LessL.nd{d:Nat}{S S':StoreD}{t t':TT d}{l:List KV}{G:List Nat}(h:LessL d S t l S' t' G)(hn:(Z0a d t).Nodup):(Z0a d t').Nodup∧G.Nodup∧(∀b∈G,b∈Z0a d t∧b∉Z0a d t')∧∀b∈Z0a d t',b∈Z0a d t:=by
 have h1:=h.pages.nodup_iff.2 hn
 rw[List.nodup_append]at h1
 exact⟨h1.1,h1.2.1,fun b hb=>⟨h.pages.mem_iff.1 (List.mem_append_right _ hb),fun q=>h1.2.2 b q b hb rfl⟩,fun b hb=>h.pages.mem_iff.1 (List.mem_append_left _ hb)⟩
theorem X2k(d:Nat)(a:TT d)(s:ByteArray)(b:TT d):atT d (Z2w d a s b)=atT d a:=by cases d<;>rfl
theorem V3o(d:Nat)(a:TT d)(s:ByteArray)(b:TT d)(ha:okT d a):Z0e d (Z2w d a s b)=Z0e d a++Z0e d b:=by
 cases d with
 | zero=>exact List.zip_append ha.2.1.symm
 | succ d=>exact List.flatMap_append
theorem X7p(d:Nat)(a:TT d)(s:ByteArray)(b:TT d):(Z0a d (Z2w d a s b)++ [atT d b]).Perm (Z0a d a++Z0a d b):=by
 cases d with
 | zero=>exact List.Perm.refl _
 | succ d=>
   show((InT.at_ a::(InT.kids a++InT.kids b).flatMap (Z0a d))++ [InT.at_ b]).Perm ((InT.at_ a::(InT.kids a).flatMap (Z0a d))++(InT.at_ b::(InT.kids b).flatMap (Z0a d)))
   rw[List.cons_append,List.cons_append,List.perm_cons,List.flatMap_append]
   refine(List.perm_append_singleton _ _).trans ?_
   exact List.perm_middle.symm
theorem V7z(d:Nat)(a:TT d)(s:ByteArray)(b:TT d):∀x∈allT d (Z2w d a s b),x∈allT d a∨x=s∨x∈allT d b:=by
 cases d with
 | zero=>exact fun x hx=>(List.mem_append.1 hx).imp_right Or.inr
 | succ d=>
   intro x hx
   have hx':x∈(InT.keys a++s::InT.keys b)++(InT.kids a++InT.kids b).flatMap (allT d):=hx
   show x∈InT.keys a++(InT.kids a).flatMap (allT d)∨x=s∨x∈InT.keys b++(InT.kids b).flatMap (allT d)
   rw[List.flatMap_append]at hx'
   simp only[List.mem_append,List.mem_cons]at hx' ⊢
   rcases hx' with (q | q | q) | q | q
   ·exact .inl (.inl q)
   ·exact .inr (.inl q)
   ·exact .inr (.inr (.inl q))
   ·exact .inl (.inr q)
   ·exact .inr (.inr (.inr q))
theorem U0k(d:Nat)(a:TT d)(s:ByteArray)(b:TT d)(ha:okT d a)(hb:okT d b)(hs:Z3g s)(h1:∀x∈allT d a,ltB x s=true)(h2:∀x∈allT d b,ltB x s=false)(h3:∀x∈sepT d b,ltB s x=true):okT d (Z2w d a s b):=by
 cases d with
 | zero=>
   obtain⟨a1,a2,a3,a4⟩:=ha
   obtain⟨b1,b2,b3,b4⟩:=hb
   refine⟨?_,?_,fun x hx=>(List.mem_append.1 hx).elim (a3 x) (b3 x),fun x hx=>(List.mem_append.1 hx).elim (a4 x) (b4 x)⟩
   ·show(LeafT.keys a++LeafT.keys b).Pairwise _
    rw[List.pairwise_append]
    exact⟨a1,b1,fun x hx y hy=>Z3m (h1 x hx) (h2 y hy)⟩
   ·show(LeafT.vals a++LeafT.vals b).length=(LeafT.keys a++LeafT.keys b).length
    rw[List.length_append,List.length_append,a2,b2]
 | succ d=>
   obtain⟨a1,a2,a3,a4,a5,a6⟩:=ha
   obtain⟨b1,b2,b3,b4,b5,b6⟩:=hb
   have sb:∀x∈InT.keys b,x∈sepT (d+1) b:=fun x hx=>List.mem_append_left _ hx
   have tb:∀c∈InT.kids b,∀x∈sepT d c,x∈sepT (d+1) b:=fun c hc x hx=>List.mem_append_right _ (List.mem_flatMap.2 ⟨c,hc,hx⟩)
   have ka:∀x∈InT.keys a,x∈allT (d+1) a:=fun x hx=>List.mem_append_left _ hx
   have kb:∀x∈InT.keys b,x∈allT (d+1) b:=fun x hx=>List.mem_append_left _ hx
   have ca:∀c∈InT.kids a,∀x∈allT d c,x∈allT (d+1) a:=fun c hc x hx=>List.mem_append_right _ (List.mem_flatMap.2 ⟨c,hc,hx⟩)
   have cb:∀c∈InT.kids b,∀x∈allT d c,x∈allT (d+1) b:=fun c hc x hx=>List.mem_append_right _ (List.mem_flatMap.2 ⟨c,hc,hx⟩)
   refine⟨?_,?_,fun x hx=> ?_,fun c hc=>(List.mem_append.1 hc).elim (a4 c) (b4 c),Z2g.2 (fun j c hc x hx i u hu=> ?_),fun j c hc x hx i u hu hij=> ?_⟩
   ·show(InT.keys a++s::InT.keys b).Pairwise _
    rw[List.pairwise_append,List.pairwise_cons]
    refine⟨a1,⟨fun x hx=>h3 x (sb x hx),b1⟩,fun x hx y hy=> ?_⟩
    rcases List.mem_cons.1 hy with rfl | hy
    ·exact h1 x (ka x hx)
    ·exact Z1n (h1 x (ka x hx)) (h3 y (sb y hy))
   ·show(InT.kids a++InT.kids b).length=(InT.keys a++s::InT.keys b).length+1
    rw[List.length_append,List.length_append,List.length_cons,a2,b2];omega
   ·rcases List.mem_append.1 hx with hx | hx
    ·exact a3 x hx
    ·rcases List.mem_cons.1 hx with rfl | hx
     ·exact hs
     ·exact b3 x hx
   ·have hc':(InT.kids a++InT.kids b)[j]? =some c:=hc
    have hu':(InT.keys a++s::InT.keys b)[i]? =some u:=hu
    rw[List.getElem?_append]at hc' hu'
    by_cases e1:j<(InT.kids a).length
    ·rw[if_pos e1]at hc'
     have hcm:=List.mem_of_getElem? hc'
     have hxs:=h1 x (ca c hcm x hx)
     by_cases f1:i<(InT.keys a).length
     ·rw[if_pos f1]at hu'
      exact Z2g.1 a5 j c hc' x hx i u hu'
     ·rw[if_neg f1]at hu'
      refine⟨fun q=>by omega,fun _=> ?_⟩
      rcases Nat.eq_zero_or_pos (i-(InT.keys a).length)with e | e
      ·rw[e]at hu'
       injection hu' with hu'
       subst hu'
       exact hxs
      ·obtain⟨p,hp⟩:∃p,i-(InT.keys a).length=p+1:=⟨i-(InT.keys a).length-1,by omega⟩
       rw[hp,List.getElem?_cons_succ]at hu'
       exact Z1n hxs (h3 u (sb u (List.mem_of_getElem? hu')))
    ·rw[if_neg e1]at hc'
     have hcm:=List.mem_of_getElem? hc'
     have hxs:=h2 x (cb c hcm x hx)
     by_cases f1:i<(InT.keys a).length
     ·rw[if_pos f1]at hu'
      refine⟨fun _=>le_of_lt (Z3m (h1 u (ka u (List.mem_of_getElem? hu'))) hxs),fun q=>by omega⟩
     ·rw[if_neg f1]at hu'
      rcases Nat.eq_zero_or_pos (i-(InT.keys a).length)with e | e
      ·rw[e]at hu'
       injection hu' with hu'
       subst hu'
       exact⟨fun _=>hxs,fun q=>by omega⟩
      ·obtain⟨p,hp⟩:∃p,i-(InT.keys a).length=p+1:=⟨i-(InT.keys a).length-1,by omega⟩
       rw[hp,List.getElem?_cons_succ]at hu'
       have:=Z2g.1 b5 _ c hc' x hx p u hu'
       exact⟨fun q=>this.1 (by omega),fun q=>this.2 (by omega)⟩
   ·have hc':(InT.kids a++InT.kids b)[j]? =some c:=hc
    have hu':(InT.keys a++s::InT.keys b)[i]? =some u:=hu
    rw[List.getElem?_append]at hc' hu'
    by_cases e1:j<(InT.kids a).length
    ·rw[if_pos e1]at hc'
     rw[if_pos (by omega)]at hu'
     exact a6 j c hc' x hx i u hu' hij
    ·rw[if_neg e1]at hc'
     have hxs:=h3 x (tb c (List.mem_of_getElem? hc') x hx)
     by_cases f1:i<(InT.keys a).length
     ·rw[if_pos f1]at hu'
      exact Z1n (h1 u (ka u (List.mem_of_getElem? hu'))) hxs
     ·rw[if_neg f1]at hu'
      rcases Nat.eq_zero_or_pos (i-(InT.keys a).length)with e | e
      ·rw[e]at hu'
       injection hu' with hu'
       subst hu'
       exact hxs
      ·obtain⟨p,hp⟩:∃p,i-(InT.keys a).length=p+1:=⟨i-(InT.keys a).length-1,by omega⟩
       rw[hp,List.getElem?_cons_succ]at hu'
       exact b6 _ c hc' x hx p u hu' (by omega)
theorem V7x(d:Nat)(a:TT d)(s:ByteArray)(b:TT d):∀x∈sepT d (Z2w d a s b),x∈sepT d a∨x=s∨x∈sepT d b:=by
 cases d with
 | zero=>exact fun x hx=> .inl hx
 | succ d=>
   intro x hx
   have hx':x∈(InT.keys a++s::InT.keys b)++(InT.kids a++InT.kids b).flatMap (sepT d):=hx
   show x∈InT.keys a++(InT.kids a).flatMap (sepT d)∨x=s∨x∈InT.keys b++(InT.kids b).flatMap (sepT d)
   rw[List.flatMap_append]at hx'
   simp only[List.mem_append,List.mem_cons]at hx' ⊢
   rcases hx' with (q | q | q) | q | q
   ·exact .inl (.inl q)
   ·exact .inr (.inl q)
   ·exact .inr (.inr (.inl q))
   ·exact .inl (.inr q)
   ·exact .inr (.inr (.inr q))
theorem V7y{S:StoreD}(d:Nat)(a:TT d)(s:ByteArray)(b:TT d)(hok:okT d (Z2w d a s b))(ha:onT S d a)(hb:onT S d b)(hm:S.head.pages≤1024)(hs:Z0m (Z0c d (Z2w d a s b))≤256):NodeOk (Z0c d (Z2w d a s b)):=by
 have h9:=Z7q (Z0c d (Z2w d a s b))
 cases d with
 | zero=>
   refine⟨fun x hx=>by have:=(hok.2.2.1 x hx).2;omega,fun x hx=>by have:=hok.2.2.2 x hx;omega,fun c hc=>by simp[Z0c]at hc,by omega,fun _=>⟨hok.2.1,rfl⟩,fun q=>by cases q⟩
 | succ d=>
   refine⟨fun x hx=>by have:=(hok.2.2.1 x hx).2;omega,fun x hx=>by simp[Z0c]at hx,Y7o (S:=S) (fun c hc=> ?_) hm,by omega,(fun q=>by cases q),fun _=>⟨rfl,?_⟩⟩
   ·rcases List.mem_append.1 (show c∈InT.kids a++InT.kids b from hc)with q | q
    ·exact ha.2 c q
    ·exact hb.2 c q
   ·show((InT.kids (Z2w (d+1) a s b)).map _).length=_
    rw[List.length_map];exact hok.2.1
theorem V8j{α:Type}(ts:List α){i:Nat}(hi:i+1<ts.length)(c:α):(ts.set i c).eraseIdx (i+1)=ts.take i++c::ts.drop (i+2):=by
 rw[List.eraseIdx_eq_take_drop_succ,List.set_eq_take_append_cons_drop,if_pos (by omega)]
 have h1:(ts.take i++c::ts.drop (i+1)).take (i+1)=ts.take i++ [c]:=by
  rw[List.take_append,List.length_take,Nat.min_eq_left (by omega),List.take_of_length_le (by rw[List.length_take];omega),show i+1-i=1 by omega];rfl
 have h2:(ts.take i++c::ts.drop (i+1)).drop (i+1+1)=ts.drop (i+2):=by
  rw[List.drop_append,List.length_take,Nat.min_eq_left (by omega),List.drop_eq_nil_of_le (by rw[List.length_take];omega),show i+1+1-i=1+1 by omega,List.drop_succ_cons,List.drop_drop];rfl
 rw[h1,h2];simp
theorem cut2{α:Type}(ts:List α){i:Nat}(hi:i+1<ts.length):ts=ts.take i++ts[i]::ts[i+1]::ts.drop (i+2):=by
 conv=>lhs;rw[←List.take_append_drop i ts,List.drop_eq_getElem_cons (by omega),List.drop_eq_getElem_cons hi]
theorem Y1d{α:Type}(ts:List α){i:Nat}(hi:i+1<ts.length)(c:α)(j:Nat):((ts.set i c).eraseIdx (i+1))[j]? =if j<i then ts[j]? else if j=i then some c else ts[j+1]? :=by
 rw[List.getElem?_eraseIdx]
 by_cases h1:j<i
 ·rw[if_pos (by omega),List.getElem?_set,if_neg (by omega),if_pos h1]
 ·by_cases h2:j=i
  ·subst h2;rw[if_pos (by omega),List.getElem?_set,if_pos rfl,if_pos (by omega),if_neg h1,if_pos rfl]
  ·rw[if_neg (by omega),List.getElem?_set,if_neg (by omega),if_neg h1,if_neg h2]
theorem X4d{d:Nat}{S:StoreD}{t:TT (d+1)}{i:Nat}{a b:TT d}{s:ByteArray}(hf:Fm S)(hon:onT S (d+1) t)(hok:okT (d+1) t)(hnd:(Z0a (d+1) t).Nodup)(ha:(InT.kids t)[i]? =some a)(hb:(InT.kids t)[i+1]? =some b)(hs:(InT.keys t)[i]? =some s)(hsz:Z0m (Z0c d (Z2w d a s b))≤256):
  LessL (d+1) S t (Z0e (d+1) t) (useP (layP (layP S (InT.at_ t) (Z0c (d+1) (Z6j d t i (Z2w d a s b)))) (atT d a) (Z0c d (Z2w d a s b))) (atT d b) false) (Z6j d t i (Z2w d a s b)) [atT d b]∧NodeOk (Z0c (d+1) (Z6j d t i (Z2w d a s b)))∧Z0m (Z0c (d+1) (Z6j d t i (Z2w d a s b)))≤256∧NodeOk (Z0c d (Z2w d a s b))∧Z0r (layP S (InT.at_ t) (Z0c (d+1) (Z6j d t i (Z2w d a s b)))) (atT d a)∧Z0r (layP (layP S (InT.at_ t) (Z0c (d+1) (Z6j d t i (Z2w d a s b)))) (atT d a) (Z0c d (Z2w d a s b))) (atT d b):=by
 obtain⟨n1,n2⟩:=Z1c hnd
 obtain⟨k1,k2,k3,k4,k5,k6⟩:=hok
 obtain⟨hi1,ha'⟩:=List.getElem?_eq_some_iff.1 ha
 obtain⟨hi2,hb'⟩:=List.getElem?_eq_some_iff.1 hb
 obtain⟨hi3,hs'⟩:=List.getElem?_eq_some_iff.1 hs
 have ham:a∈InT.kids t:=ha'▸List.getElem_mem hi1
 have hbm:b∈InT.kids t:=hb'▸List.getElem_mem hi2
 have hsm:s∈InT.keys t:=hs'▸List.getElem_mem hi3
 have sp:=Z2g.1 k5
 have h1:∀x∈allT d a,ltB x s=true:=fun x hx=>(sp i a ha x hx i s hs).2 (Nat.le_refl _)
 have h2:∀x∈allT d b,ltB x s=false:=fun x hx=>(sp (i+1) b hb x hx i s hs).1 (Nat.lt_succ_self _)
 have h3:∀x∈sepT d b,ltB s x=true:=fun x hx=>k6 (i+1) b hb x hx i s hs (Nat.lt_succ_self _)
 have okB:=U0k d a s b (k4 a ham) (k4 b hbm) (k3 s hsm) h1 h2 h3
 have nB:=V7y (S:=S) d a s b okB (hon.2 a ham) (hon.2 b hbm) hf.most hsz
 generalize hB:Z2w d a s b=B at *
 have hBa:atT d B=atT d a:=by rw[←hB];exact X2k d a s b
 have hBall:∀x∈allT d B,x∈allT d a∨x=s∨x∈allT d b:=by rw[←hB];exact V7z d a s b
 have hBsep:∀x∈sepT d B,x∈sepT d a∨x=s∨x∈sepT d b:=by rw[←hB];exact V7x d a s b
 have hBp:(Z0a d B++ [atT d b]).Perm (Z0a d a++Z0a d b):=by rw[←hB];exact X7p d a s b
 have hBl:Z0e d B=Z0e d a++Z0e d b:=by rw[←hB];exact V3o d a s b (k4 a ham)
 have hk2:∀e,e∈((InT.kids t).set i B).eraseIdx (i+1)→e=B∨∃j,(InT.kids t)[j]? =some e∧j≠i∧j≠i+1:=fun e he=>by
  obtain⟨j,hj⟩:=List.mem_iff_getElem?.1 he
  rw[Y1d _ hi2]at hj
  by_cases e1:j<i
  ·rw[if_pos e1]at hj;exact .inr ⟨j,hj,by omega,by omega⟩
  ·rw[if_neg e1]at hj
   by_cases e2:j=i
   ·rw[if_pos e2]at hj;injection hj with hj;exact .inl hj.symm
   ·rw[if_neg e2]at hj;exact .inr ⟨j+1,hj,by omega,by omega⟩
 have hwB:∀x∈allT d B,∀(p:Nat) (u:ByteArray),(InT.keys t)[p]? =some u→(p<i→ltB x u=false)∧(i+1≤p→ltB x u=true):=fun x hx p u hu=>by
  rcases hBall x hx with q | q | q
  ·have:=sp i a ha x q p u hu
   exact⟨this.1,fun r=>this.2 (by omega)⟩
  ·subst q
   obtain⟨hp,hpe⟩:=List.getElem?_eq_some_iff.1 hu
   subst hpe
   rw[←hs']
   exact⟨fun r=>le_of_lt (Z1r k1 hi3 r),fun r=>Z1r k1 hp (by omega)⟩
  ·have:=sp (i+1) b hb x q p u hu
   exact⟨fun r=>this.1 (by omega),this.2⟩
 have hoL:okT (d+1) (Z6j d t i B):=by
  refine⟨k1.sublist (List.eraseIdx_sublist _ _),?_,fun x hx=>k3 x (List.mem_of_mem_eraseIdx hx),fun e he=> ?_,Z2g.2 (fun j e hj x hx p u hu=> ?_),fun j e hj x hx p u hu hpj=> ?_⟩
  ·show(((InT.kids t).set i B).eraseIdx (i+1)).length=((InT.keys t).eraseIdx i).length+1
   rw[List.length_eraseIdx,List.length_set,List.length_eraseIdx,if_pos (by omega),if_pos hi3];omega
  ·rcases hk2 e he with rfl | ⟨j,hj,_⟩
   ·exact okB
   ·exact k4 e (List.mem_of_getElem? hj)
  ·have hj':(((InT.kids t).set i B).eraseIdx (i+1))[j]? =some e:=hj
   have hu':((InT.keys t).eraseIdx i)[p]? =some u:=hu
   rw[Y1d _ hi2]at hj'
   rw[List.getElem?_eraseIdx]at hu'
   by_cases e1:j<i
   ·rw[if_pos e1]at hj'
    by_cases f:p<i
    ·rw[if_pos f]at hu';exact sp j e hj' x hx p u hu'
    ·rw[if_neg f]at hu'
     have:=sp j e hj' x hx (p+1) u hu'
     exact⟨fun r=>by omega,fun r=>this.2 (by omega)⟩
   ·rw[if_neg e1]at hj'
    by_cases e2:j=i
    ·rw[if_pos e2]at hj'
     injection hj' with hj'
     subst hj'
     by_cases f:p<i
     ·rw[if_pos f]at hu'
      have:=hwB x hx p u hu'
      exact⟨fun r=>this.1 f,fun r=>by omega⟩
     ·rw[if_neg f]at hu'
      have:=hwB x hx (p+1) u hu'
      exact⟨fun r=>by omega,fun r=>this.2 (by omega)⟩
    ·rw[if_neg e2]at hj'
     by_cases f:p<i
     ·rw[if_pos f]at hu'
      have:=sp (j+1) e hj' x hx p u hu'
      exact⟨fun r=>this.1 (by omega),fun r=>by omega⟩
     ·rw[if_neg f]at hu'
      have:=sp (j+1) e hj' x hx (p+1) u hu'
      exact⟨fun r=>this.1 (by omega),fun r=>this.2 (by omega)⟩
  ·have hj':(((InT.kids t).set i B).eraseIdx (i+1))[j]? =some e:=hj
   have hu':((InT.keys t).eraseIdx i)[p]? =some u:=hu
   rw[Y1d _ hi2]at hj'
   rw[List.getElem?_eraseIdx]at hu'
   by_cases e1:j<i
   ·rw[if_pos e1]at hj'
    rw[if_pos (by omega)]at hu'
    exact k6 j e hj' x hx p u hu' hpj
   ·rw[if_neg e1]at hj'
    by_cases e2:j=i
    ·rw[if_pos e2]at hj'
     injection hj' with hj'
     subst hj'
     rw[if_pos (by omega)]at hu'
     rcases hBsep x hx with q | q | q
     ·exact k6 i a ha x q p u hu' (by omega)
     ·subst q
      obtain⟨hp,hpe⟩:=List.getElem?_eq_some_iff.1 hu'
      subst hpe
      rw[←hs']
      exact Z1r k1 hi3 (by omega)
     ·exact k6 (i+1) b hb x q p u hu' (by omega)
    ·rw[if_neg e2]at hj'
     by_cases f:p<i
     ·rw[if_pos f]at hu'
      exact k6 (j+1) e hj' x hx p u hu' (by omega)
     ·rw[if_neg f]at hu'
      exact k6 (j+1) e hj' x hx (p+1) u hu' (by omega)
 have hsmall:=hon.1.small
 have hn1:NodeOk (Z0c (d+1) (Z6j d t i B)):=by
  refine⟨fun x hx=>by have:=(hoL.2.2.1 x hx).2;omega,fun x hx=>by simp[Z0c]at hx,fun c hc=> ?_,?_,(fun q=>by cases q),fun _=>⟨rfl,?_⟩⟩
  ·obtain⟨e,he,rfl⟩:=List.mem_map.1 hc
   have hg:Z0r S (atT d e):=by
    rcases hk2 e he with rfl | ⟨j,hj,_⟩
    ·rw[hBa];exact Z0k d a (hon.2 a ham) _ (Z0q d a)
    ·exact Z0k d e (hon.2 e (List.mem_of_getElem? hj)) _ (Z0q d e)
   have:=hg.2.1
   have:=hf.most
   exact⟨by omega,by omega⟩
  ·have h9:=Z7q (Z0c (d+1) t)
   have h8:(Z0c (d+1) t).keys.length=(InT.keys t).length:=rfl
   show((InT.keys t).eraseIdx i).length≤255
   have:=List.length_eraseIdx_le (InT.keys t) i
   omega
  ·show((((InT.kids t).set i B).eraseIdx (i+1)).map _).length=_
   rw[List.length_map];exact hoL.2.1
 have hz1:Z0m (Z0c (d+1) (Z6j d t i B))≤256:=by
  rw[Z7w]at hsmall
  refine Nat.le_trans (Nat.le_of_eq (Z7w (Z6j d t i B))) ?_
  show 2+2*(((InT.kids t).set i B).eraseIdx (i+1)).length+Z0n ((InT.keys t).eraseIdx i)≤256
  have h9:=List.length_eraseIdx_le ((InT.kids t).set i B) (i+1)
  rw[List.length_set]at h9
  have:=Z8l (InT.keys t) i
  omega
 have ga:Z0r S (atT d a):=Z0k d a (hon.2 a ham) _ (Z0q d a)
 have gb:Z0r S (atT d b):=Z0k d b (hon.2 b hbm) _ (Z0q d b)
 have hm:=hf.most
 have t1:=Z5c hf.full hon.1.given.1 hn1 hz1
 have p1:=Z3y hon.1.given hn1 hz1
 have ga1:Z0r (layP S (InT.at_ t) (Z0c (d+1) (Z6j d t i B))) (atT d a):=t1.given ga (by simp)
 have t2:=Z5c t1.full ga.1 nB hsz
 have p2:=Z3y ga1 nB hsz
 have gb2:Z0r (layP (layP S (InT.at_ t) (Z0c (d+1) (Z6j d t i B))) (atT d a) (Z0c d B)) (atT d b):=t2.given (t1.given gb (by simp)) (by simp)
 have t3:=Y1z t2.full (n:=atT d b) (by have:=gb.2.1;omega)
 have hat1:InT.at_ t≠atT d a:=fun e=>(n1 a ham).1 (e▸Z0q d a)
 have hat2:InT.at_ t≠atT d b:=fun e=>(n1 b hbm).1 (e▸Z0q d b)
 have hab:atT d a≠atT d b:=fun e=>n2 i (i+1) a b ha hb (by omega) _ (Z0q d a) (e▸Z0q d b)
 have t12:=t1.trans (Q:=fun b=>b=atT d a) t2 (fun b q=>by cases q) (fun b q=> .inr (.inr q))
 have t123:=t12.trans (Q:=fun _=>False) t3 (fun b q=>by cases q) (fun b q=>q.elim)
 refine⟨⟨?_,rfl,⟨?_,fun e he=> ?_⟩,hoL,?_,?_,fun x hx=> ?_,fun x hx=> ?_⟩,hn1,hz1,nB,ga1,gb2⟩
 ·have:=t123.mono (P':=fun b=>b∈Z0a (d+1) t) (fun b q=>by
   show b∈InT.at_ t::(InT.kids t).flatMap (Z0a d)
   rcases q with (q | q) | q
   ·rw[q];exact List.mem_cons_self
   ·rw[q];exact List.mem_cons_of_mem _ (List.mem_flatMap.2 ⟨a,ham,Z0q d a⟩)
   ·exact q.elim)
  simpa using this
 ·exact(p1.stp t2 hat1 (by simp) (by simp)).stp t3 (fun q=>q) (by simp) (by simpa using hat2)
 ·have far:∀c,c∈InT.kids t→(∀b'∈Z0a d c,b'≠atT d a∧b'≠atT d b)→onT (useP (layP (layP S (InT.at_ t) (Z0c (d+1) (Z6j d t i B))) (atT d a) (Z0c d B)) (atT d b) false) d c:=fun c hc hn=>
   Z6y t123 d c (hon.2 c hc) (fun b' q=>⟨fun r=>by
    rcases r with (r | r) | r
    ·rw[r]at q;exact(n1 c hc).1 q
    ·exact(hn b' q).1 r
    ·exact r,by simp,by simpa using (hn b' q).2⟩)
  rcases hk2 e he with rfl | ⟨j,hj,j1,j2⟩
  ·have p3:=p2.stp t3 (fun q=>q) (by simp) (by simpa using hab)
   have p3':PageN (useP (layP (layP S (InT.at_ t) (Z0c (d+1) (Z6j d t i e))) (atT d a) (Z0c d e)) (atT d b) false) (atT d e) (Z0c d e):=by rw[hBa];exact p3
   clear p3
   have dis:∀x∈Z0a d a,x∉Z0a d b:=fun x hx=>n2 i (i+1) a b ha hb (by omega) x hx
   cases d with
   | zero=>exact p3'
   | succ d=>
     refine⟨p3',fun c hc=> ?_⟩
     have hc':c∈InT.kids a++InT.kids b:=by rw[←hB]at hc;exact hc
     have oc:onT S d c:=(List.mem_append.1 hc').elim ((hon.2 a ham).2 c) ((hon.2 b hbm).2 c)
     refine Z6y t123 d c oc (fun b' q=> ?_)
     have na:=(n1 a ham).2
     have nb:=(n1 b hbm).2
     rcases List.mem_append.1 hc' with hc' | hc'
     ·have q2:b'∈Z0a (d+1) a:=List.mem_cons_of_mem _ (List.mem_flatMap.2 ⟨c,hc',q⟩)
      refine⟨fun r=> ?_,by simp,fun r=> ?_⟩
      ·rcases r with (r | r) | r
       ·rw[r]at q2;exact(n1 a ham).1 q2
       ·rw[r]at q;exact((Z1c na).1 c hc').1 q
       ·exact r
      ·simp only[List.nil_append,List.append_nil,List.mem_singleton]at r
       rw[r]at q2
       exact dis _ q2 (Z0q (d+1) b)
     ·have q2:b'∈Z0a (d+1) b:=List.mem_cons_of_mem _ (List.mem_flatMap.2 ⟨c,hc',q⟩)
      refine⟨fun r=> ?_,by simp,fun r=> ?_⟩
      ·rcases r with (r | r) | r
       ·rw[r]at q2;exact(n1 b hbm).1 q2
       ·rw[r]at q2;exact dis _ (Z0q (d+1) a) q2
       ·exact r
      ·simp only[List.nil_append,List.append_nil,List.mem_singleton]at r
       rw[r]at q
       exact((Z1c nb).1 c hc').1 q
  ·have hem:=List.mem_of_getElem? hj
   exact far e hem (fun b' q=>⟨fun r=>n2 j i e a hj ha j1 b' q (r▸Z0q d a),fun r=>n2 j (i+1) e b hj hb j2 b' q (r▸Z0q d b)⟩)
 ·show(InT.at_ t::(((InT.kids t).set i B).eraseIdx (i+1)).flatMap (Z0a d)++ [atT d b]).Perm (InT.at_ t::(InT.kids t).flatMap (Z0a d))
  rw[List.cons_append,List.perm_cons,V8j _ hi2]
  conv=>rhs;rw[cut2 (InT.kids t) hi2,ha',hb']
  simp only[List.flatMap_append,List.flatMap_cons]
  generalize ((InT.kids t).take i).flatMap (Z0a d)=X
  generalize ((InT.kids t).drop (i+2)).flatMap (Z0a d)=Y
  rw[List.append_assoc]
  refine List.Perm.append_left X ?_
  rw[List.append_assoc]
  refine(List.perm_append_comm.append_left _).trans ?_
  rw[←List.append_assoc,←List.append_assoc]
  exact hBp.append_right Y
 ·show(((InT.kids t).set i B).eraseIdx (i+1)).flatMap (Z0e d)=(InT.kids t).flatMap (Z0e d)
  rw[V8j _ hi2]
  conv=>rhs;rw[cut2 (InT.kids t) hi2,ha',hb']
  simp only[List.flatMap_append,List.flatMap_cons,hBl,List.append_assoc]
 ·have hx':x∈(InT.keys t).eraseIdx i++(((InT.kids t).set i B).eraseIdx (i+1)).flatMap (allT d):=hx
  show x∈InT.keys t++(InT.kids t).flatMap (allT d)
  rw[List.mem_append,List.mem_flatMap]at hx'
  rcases hx' with q | ⟨e,q1,q2⟩
  ·exact List.mem_append_left _ (List.mem_of_mem_eraseIdx q)
  ·rcases hk2 e q1 with rfl | ⟨j,hj,_⟩
   ·rcases hBall x q2 with r | r | r
    ·exact List.mem_append_right _ (List.mem_flatMap.2 ⟨a,ham,r⟩)
    ·subst r;exact List.mem_append_left _ hsm
    ·exact List.mem_append_right _ (List.mem_flatMap.2 ⟨b,hbm,r⟩)
   ·exact List.mem_append_right _ (List.mem_flatMap.2 ⟨e,List.mem_of_getElem? hj,q2⟩)
 ·have hx':x∈(InT.keys t).eraseIdx i++(((InT.kids t).set i B).eraseIdx (i+1)).flatMap (sepT d):=hx
  show x∈InT.keys t++(InT.kids t).flatMap (sepT d)
  rw[List.mem_append,List.mem_flatMap]at hx'
  rcases hx' with q | ⟨e,q1,q2⟩
  ·exact List.mem_append_left _ (List.mem_of_mem_eraseIdx q)
  ·rcases hk2 e q1 with rfl | ⟨j,hj,_⟩
   ·rcases hBsep x q2 with r | r | r
    ·exact List.mem_append_right _ (List.mem_flatMap.2 ⟨a,ham,r⟩)
    ·subst r;exact List.mem_append_left _ hsm
    ·exact List.mem_append_right _ (List.mem_flatMap.2 ⟨b,hbm,r⟩)
   ·exact List.mem_append_right _ (List.mem_flatMap.2 ⟨e,List.mem_of_getElem? hj,q2⟩)
theorem LessL.same{d:Nat}{S:StoreD}{t:TT d}(hf:Fm S)(hon:onT S d t)(hok:okT d t):LessL d S t (Z0e d t) S t []:=
 ⟨Stp.refl hf.full,rfl,hon,hok,by simp,rfl,fun _ h=>h,fun _ h=>h⟩
theorem LessL.fm{d:Nat}{S S':StoreD}{t t':TT d}{l:List KV}{G:List Nat}(h:LessL d S t l S' t' G)(hf:Fm S)(hon:onT S d t):Fm S':=
 hf.stp h.stp (fun b hb=>(Z0k d t hon b (h.pages.mem_iff.1 (List.mem_append_right _ hb))).1)
theorem LessL.trans{d:Nat}{S S' S'':StoreD}{t t' t'':TT d}{l l':List KV}{G G':List Nat}(h:LessL d S t l S' t' G)(k:LessL d S' t' l' S'' t'' G')(hn:(Z0a d t).Nodup):LessL d S t l' S'' t'' (G++G'):=by
 obtain⟨n1,n2,n3,n4⟩:=h.nd hn
 refine⟨?_,k.at_.trans h.at_,k.on,k.ok,?_,k.list,fun x hx=>h.all x (k.all x hx),fun x hx=>h.sep x (k.sep x hx)⟩
 ·have:=h.stp.trans (Q:=fun _=>False) k.stp (fun b q=>by cases q) (fun b q=> .inl (n4 b q))
  exact(by simpa using this.mono (P':=fun b=>b∈Z0a d t) (fun b q=>q.elim id False.elim))
 ·rw[←List.append_assoc]
  refine(List.Perm.append_right G' List.perm_append_comm).trans ?_ |>.trans h.pages
  rw[List.append_assoc]
  exact(k.pages.append_left G).trans List.perm_append_comm
theorem V1l{d:Nat}{S S':StoreD}{t t':TT (d+1)}{i:Nat}(h:U0v d S t i S' t')(hf:Fm S)(hon:onT S (d+1) t)(hok:okT (d+1) t)(hnd:(Z0a (d+1) t).Nodup):∃G,LessL (d+1) S t (Z0e (d+1) t) S' t' G:=by
 rcases h with ⟨_,rfl,rfl⟩ | ⟨_,a,b,s,ha,hb,hs,⟨_,rfl,rfl⟩ | ⟨hz,rfl,rfl⟩⟩
 ·exact⟨[],LessL.same hf hon hok⟩
 ·exact⟨[],LessL.same hf hon hok⟩
 ·exact⟨_,(X4d hf hon hok hnd ha hb hs hz).1⟩
theorem X8m{d:Nat}{S S1:StoreD}{t:TT (d+1)}{k:ByteArray}{c c':TT d}{G1:List Nat}(hf:Fm S)(hon:onT S (d+1) t)(hok:okT (d+1) t)(hnd:(Z0a (d+1) t).Nodup)(hc:(InT.kids t)[Z0g (InT.keys t) k]? =some c)(h:LessL d S c (Z7h (Z0e d c) k) S1 c' G1):
  LessL (d+1) S t (Z7h (Z0e (d+1) t) k) S1 (InT.mk (InT.at_ t) (InT.keys t) ((InT.kids t).set (Z0g (InT.keys t) k) c')) G1:=by
 obtain⟨hj,hce⟩:=List.getElem?_eq_some_iff.1 hc
 have hcm:c∈InT.kids t:=hce▸List.getElem_mem hj
 obtain⟨n1,n2⟩:=Z1c hnd
 have hok':=hok
 obtain⟨k1,k2,k3,k4,k5,k6⟩:=hok
 have hG:∀b∈G1,b∈Z0a d c:=fun b hb=>h.pages.mem_iff.1 (List.mem_append_right _ hb)
 have hpg:∀b∈Z0a d c,b∈Z0a (d+1) t:=fun b hb=>by
  show b∈InT.at_ t::_
  exact List.mem_cons_of_mem _ (List.mem_flatMap.2 ⟨c,hcm,hb⟩)
 have hk2:∀e,e∈(InT.kids t).set (Z0g (InT.keys t) k) c'→e=c'∨∃j,(InT.kids t)[j]? =some e∧j≠Z0g (InT.keys t) k:=fun e he=>by
  obtain⟨j,hj'⟩:=List.mem_iff_getElem?.1 he
  rw[List.getElem?_set]at hj'
  by_cases e1:Z0g (InT.keys t) k=j
  ·rw[if_pos e1,if_pos hj]at hj';injection hj' with hj';exact .inl hj'.symm
  ·rw[if_neg e1]at hj';exact .inr ⟨j,hj',fun q=>e1 q.symm⟩
 refine⟨h.stp.mono hpg,rfl,⟨?_,fun e he=> ?_⟩,⟨k1,by show((InT.kids t).set _ _).length=_;rw[List.length_set];exact k2,k3,fun e he=> ?_,X9f k5 (fun x hx i s hs=>Z2g.1 k5 _ _ hc x (h.all x hx) i s hs),X8z k6 (fun x hx i s hs hi=>k6 _ c hc x (h.sep x hx) i s hs hi)⟩,?_,?_,fun x hx=> ?_,fun x hx=> ?_⟩
 ·have e1:Z0c (d+1) (InT.mk (InT.at_ t) (InT.keys t) ((InT.kids t).set (Z0g (InT.keys t) k) c'))=Z0c (d+1) t:=by
   show NodeD.mk false _ [] _=NodeD.mk false _ [] _
   rw[Z5j hc h.at_]
  rw[e1]
  exact hon.1.stp h.stp (n1 c hcm).1 (by simp) (fun q=>(n1 c hcm).1 (hG _ q))
 ·rcases hk2 e he with rfl | ⟨j,hj',hne⟩
  ·exact h.on
  ·have hem:=List.mem_of_getElem? hj'
   exact Z6y h.stp d e (hon.2 e hem) (fun b q'=>⟨n2 _ _ _ _ hj' hc hne b q',by simp,fun r=>n2 _ _ _ _ hj' hc hne b q' (hG b r)⟩)
 ·rcases hk2 e he with rfl | ⟨j,hj',_⟩
  ·exact h.ok
  ·exact k4 e (List.mem_of_getElem? hj')
 ·show((InT.at_ t::((InT.kids t).set _ c').flatMap (Z0a d))++G1).Perm (Z0a (d+1) t)
  rw[Y3e hc,Z7e (Z0a d) _ hj,List.cons_append,List.perm_cons]
  generalize ((InT.kids t).take (Z0g (InT.keys t) k)).flatMap (Z0a d)=A at *
  generalize ((InT.kids t).drop (Z0g (InT.keys t) k+1)).flatMap (Z0a d)=C at *
  refine List.Perm.trans ?_ ((h.pages.append_left A).append_right C)
  rw[List.append_assoc,List.append_assoc,List.append_assoc,List.append_assoc]
  exact(List.perm_append_comm.append_left _).append_left _
 ·obtain⟨a1,a2⟩:=Y6h (t:=t) hok' k
  show((InT.kids t).set _ c').flatMap (Z0e d)=Z7h ((InT.kids t).flatMap (Z0e d)) k
  rw[Z7e (Z0e d) _ hj,Z6a (Z0e d) (InT.kids t) hj,X0n a1 a2,hce,h.list]
 ·have hx':x∈InT.keys t++((InT.kids t).set _ c').flatMap (allT d):=hx
  show x∈InT.keys t++(InT.kids t).flatMap (allT d)
  rw[List.mem_append,List.mem_flatMap]at hx' ⊢
  rcases hx' with q | ⟨e,q1,q2⟩
  ·exact .inl q
  ·rcases Z4l q1 with rfl | q1
   ·exact .inr ⟨c,hcm,h.all x q2⟩
   ·exact .inr ⟨e,q1,q2⟩
 ·have hx':x∈InT.keys t++((InT.kids t).set _ c').flatMap (sepT d):=hx
  show x∈InT.keys t++(InT.kids t).flatMap (sepT d)
  rw[List.mem_append,List.mem_flatMap]at hx' ⊢
  rcases hx' with q | ⟨e,q1,q2⟩
  ·exact .inl q
  ·rcases Z4l q1 with rfl | q1
   ·exact .inr ⟨c,hcm,h.sep x q2⟩
   ·exact .inr ⟨e,q1,q2⟩
def hasT:(d:Nat)→TT d→ByteArray→Prop
 | 0,t,k=>hasB (LeafT.keys t) k=true
 | d+1,t,k=>∃c,(InT.kids t)[Z0g (InT.keys t) k]? =some c∧hasT d c k
theorem V7n{t:LeafT}(h:okT 0 t)(k:ByteArray):okT 0 (V3e t k):=by
 obtain⟨k1,k2,k3,k4⟩:=h
 refine⟨k1.sublist (List.eraseIdx_sublist _ _),?_,fun x hx=>k3 x (List.mem_of_mem_eraseIdx hx),fun x hx=>k4 x (List.mem_of_mem_eraseIdx hx)⟩
 show((LeafT.vals t).eraseIdx _).length=((LeafT.keys t).eraseIdx _).length
 rw[List.length_eraseIdx,List.length_eraseIdx,k2]
theorem Z6p:∀(d:Nat) {S S':StoreD} {t t':TT d} {k:ByteArray},Y1t d S t k S' t'→Fm S→onT S d t→okT d t→hasT d t k→(Z0a d t).Nodup→∃G,LessL d S t (Z7h (Z0e d t) k) S' t' G
 | 0,S,S',t,t',k,h,hf,hon,hok,hh,hnd=>by
   obtain⟨rfl,rfl⟩:=h
   have hp:=Z3t 0 t hon
   have h1:NodeOk (Z0c 0 (V3e t k)):=V3d k hp.ok rfl
   have h2:Z0m (Z0c 0 (V3e t k))≤256:=X0m k hp rfl
   refine⟨[],(Z5c hf.full hp.given.1 h1 h2).mono (fun b q=>by rw[q];exact Z0q 0 t),rfl,Z3y hp.given h1 h2,V7n hok k,?_,V3f hok.2.1 hok.1 k hh,fun x hx=>List.mem_of_mem_eraseIdx hx,(fun x hx=>by cases hx)⟩
   rw[List.append_nil]
   exact List.Perm.refl _
 | d+1,S,S',t,t',k,h,hf,hon,hok,hh,hnd=>by
   obtain⟨c,hc,S1,c',h1,h2⟩:=h
   have hcm:c∈InT.kids t:=List.mem_of_getElem? hc
   obtain⟨e,he,hh'⟩:=hh
   rw[hc]at he
   injection he with he
   subst he
   obtain⟨G1,q⟩:=Z6p d h1 hf (hon.2 c hcm) (hok.2.2.2.1 c hcm) hh' ((Z1c hnd).1 c hcm).2
   have u:=X8m hf hon hok hnd hc q
   obtain⟨G2,r⟩:=V1l h2 (u.fm hf hon) u.on u.ok (u.nd hnd).1
   rw[u.list]at r
   exact⟨_,u.trans r hnd⟩
theorem Z9n:∀(d:Nat) (t:TT d),okT d t→∀k,hasT d t k↔∃x∈Z0e d t,x.1=k
 | 0,t,h,k=>by
   have hl:(LeafT.vals t).length=(LeafT.keys t).length:=h.2.1
   show hasB (LeafT.keys t) k=true↔∃x∈(LeafT.keys t).zip (LeafT.vals t),x.1=k
   rw[Z5z]
   have h1:((LeafT.keys t).zip (LeafT.vals t)).map (·.1)=LeafT.keys t:=List.map_fst_zip (by omega)
   conv=>lhs;rw[←h1]
   rw[List.mem_map]
 | d+1,t,h,k=>by
   have hok:=h
   obtain⟨k1,k2,k3,k4,k5,k6⟩:=h
   have hj:Z0g (InT.keys t) k<(InT.kids t).length:=by have:=Z4g (k:=k) k1;omega
   obtain⟨a1,a2⟩:=Y6h (t:=t) hok k
   show(∃c,(InT.kids t)[Z0g (InT.keys t) k]? =some c∧hasT d c k)↔∃x∈(InT.kids t).flatMap (Z0e d),x.1=k
   rw[List.getElem?_eq_getElem hj,Z6a (Z0e d) _ hj]
   constructor
   ·rintro⟨c,hc,hh⟩
    injection hc with hc
    subst hc
    obtain⟨x,hx,e⟩:=(Z9n d _ (k4 _ (List.getElem_mem hj)) k).1 hh
    exact⟨x,List.mem_append_left _ (List.mem_append_right _ hx),e⟩
   ·rintro⟨x,hx,e⟩
    refine⟨_,rfl,(Z9n d _ (k4 _ (List.getElem_mem hj)) k).2 ⟨x,?_,e⟩⟩
    rcases List.mem_append.1 hx with hx | hx
    ·rcases List.mem_append.1 hx with hx | hx
     ·have:=a1 x hx;rw[e,Z1g]at this;cases this
     ·exact hx
    ·have:=a2 x hx;rw[e,Z1g]at this;cases this
structure Frm (P:Nat→Prop) (F G:List Nat) (S S':StoreD):Prop where
 head:S'.head=S.head
 view:∀b,2≤b→¬P b→b∉F→Z1a S' b=Z1a S b
 used:∀b,Z0y S' b=true↔(Z0y S b=true∨b∈F)∧b∉G
section
variable {P:Nat→Prop} {F G:List Nat} {S S':StoreD}
theorem PageN.frm{a:Nat}{n:NodeD}(hp:PageN S a n)(h:Frm P F G S S')(h1:¬P a)(h2:a∉F)(h3:a∉G):PageN S' a n:=
 ⟨⟨hp.given.1,by rw[h.head];exact hp.given.2.1,(h.used a).2 ⟨.inl hp.given.2.2,h3⟩⟩,hp.ok,hp.fits,by rw[h.view a hp.given.1 h1 h2];exact hp.view⟩
theorem Y3m(h:Frm P F G S S'):∀(d:Nat) (t:TT d),onT S d t→(∀b∈Z0a d t,¬P b∧b∉F∧b∉G)→onT S' d t
 | 0,t,ho,hb=>by
   have:=hb (LeafT.at_ t) (by simp[Z0a])
   exact PageN.frm ho h this.1 this.2.1 this.2.2
 | d+1,t,ho,hb=>by
   have:=hb (InT.at_ t) (by simp[Z0a])
   refine⟨PageN.frm ho.1 h this.1 this.2.1 this.2.2,fun c hc=>Y3m h d c (ho.2 c hc) (fun b q=>hb b ?_)⟩
   simp only[Z0a,List.mem_cons,List.mem_flatMap]
   exact .inr ⟨c,hc,q⟩
end
structure Big (i:Nat) (P:Nat→Prop) (F G:List Nat) (S S':StoreD):Prop where
 same:S'= { S with dirty:=S'.dirty}
 full:FullV S'
 root:∀j,j<16→j≠i→Z1v S' j=Z1v S j
 view:∀b,2≤b→¬P b→b∉F→Z1a S' b=Z1a S b
 used:∀b,Z0y S' b=true↔(Z0y S b=true∨b∈F)∧b∉G
 dirt:∀b:Nat,2≤b→S'.dirty (b:Int)≠none→S.dirty (b:Int)≠none∨P b∨b∈F
section
variable {i:Nat} {P P':Nat→Prop} {F G:List Nat} {S S':StoreD}
theorem Big.head(h:Big i P F G S S'):S'.head=S.head:=by rw[h.same]
theorem Big.frm(h:Big i P F G S S'):Frm P F G S S':=⟨h.head,h.view,h.used⟩
theorem Stp.big(h:Stp P F G S S')(i:Nat):Big i P F G S S':=⟨h.same,h.full,fun j _ _=>h.root j,h.view,h.used,h.dirt⟩
theorem Big.mono(h:Big i P F G S S')(hP:∀b,P b→P' b):Big i P' F G S S':=⟨h.same,h.full,h.root,fun b h1 h2 h3=>h.view b h1 (fun q=>h2 (hP b q)) h3,h.used,fun b h1 h2=>(h.dirt b h1 h2).imp_right (Or.imp_left (hP b))⟩
theorem Fm.big(h:Fm S)(k:Big i P F G S S')(hG:∀b∈G,2≤b):Fm S':=
 ⟨k.full,(k.used 0).2 ⟨.inl h.u0,fun q=>by have:=hG _ q;omega⟩,(k.used 1).2 ⟨.inl h.u1,fun q=>by have:=hG _ q;omega⟩,by rw[k.head];exact h.most⟩
theorem Stp.setRoot(h:Stp P F G S S')(hi:i<16){n:Nat}(hn:n<4294967296):Big i P F G S (Z0o S' i n)∧Z1v (Z0o S' i n) i=n:=by
 have hv:(Y2u (Z1a S' 1) i n).size=256:=Y0h (h.full 1) hi n
 refine⟨⟨by rw[h.same];rfl,Y2f h.full 1 (by rw[hv];decide),fun j hj hne=> ?_,fun b h1 h2 h3=> ?_,fun b=> ?_,fun b h1 h2=> ?_⟩,?_⟩
 ·rw[X3f h.full hi hj hn,if_neg hne,h.root]
 ·rw[Y6m _ _ _ _ (by omega)];exact h.view b h1 h2 h3
 ·rw[Y6n];exact h.used b
 ·refine h.dirt b h1 (fun q=>h2 ?_)
  show updI S'.dirty 1 _ b=none
  unfold updI
  rw[if_neg (by omega)]
  exact q
 ·rw[X3f h.full hi hi hn,if_pos rfl]
end
theorem Big.trans{i:Nat}{P P' Q:Nat→Prop}{F F' G G':List Nat}{S S' S'':StoreD}(h:Big i P F G S S')(k:Big i P' F' G' S' S'')(hG:∀b,b∈F'→b∉G)(hP:∀b,P' b→P b∨b∈F∨Q b):Big i (fun b=>P b∨Q b) (F++F') (G++G') S S'':=by
 refine⟨by rw[k.same,h.same],k.full,fun j hj hne=>(k.root j hj hne).trans (h.root j hj hne),fun b h1 h2 h3=> ?_,fun b=> ?_,fun b h1 h2=> ?_⟩
 ·rw[List.mem_append,not_or]at h3
  refine(k.view b h1 (fun q=> ?_) h3.2).trans (h.view b h1 (fun q=>h2 (.inl q)) h3.1)
  rcases hP b q with q | q | q
  ·exact h2 (.inl q)
  ·exact h3.1 q
  ·exact h2 (.inr q)
 ·rw[k.used,h.used,List.mem_append,List.mem_append]
  have:=hG b
  constructor
  ·rintro⟨⟨q1,q2⟩ | q1,q3⟩
   ·exact⟨q1.imp_right Or.inl,fun q=>q.elim q2 q3⟩
   ·exact⟨.inr (.inr q1),fun q=>q.elim (this q1) q3⟩
  ·rintro⟨q1,q2⟩
   rw[not_or]at q2
   rcases q1 with q1 | q1 | q1
   ·exact⟨.inl ⟨.inl q1,q2.1⟩,q2.2⟩
   ·exact⟨.inl ⟨.inr q1,q2.1⟩,q2.2⟩
   ·exact⟨.inr q1,q2.2⟩
 ·rw[List.mem_append]
  rcases k.dirt b h1 h2 with q | q | q
  ·rcases h.dirt b h1 q with r | r | r
   ·exact .inl r
   ·exact .inr (.inl (.inl r))
   ·exact .inr (.inr (.inl r))
  ·rcases hP b q with q | q | q
   ·exact .inr (.inl (.inl q))
   ·exact .inr (.inr (.inl q))
   ·exact .inr (.inl (.inr q))
  ·exact .inr (.inr (.inr q))
inductive TrD where
 | no
 | yes (d:Nat) (t:TT d)
def TrD.list:TrD→List KV
 | .no=> []
 | .yes d t=>Z0e d t
def TrD.pages:TrD→List Nat
 | .no=> []
 | .yes d t=>Z0a d t
def TrD.need:TrD→Nat
 | .no=>1
 | .yes d _=>d+2
def TrD.fine:TrD→Prop
 | .no=>True
 | .yes d _=>d<31
def TrS(S:StoreD)(i:Nat):TrD→Prop
 | .no=>Z1v S i=0
 | .yes d t=>Z1v S i=atT d t∧onT S d t∧okT d t∧(Z0a d t).Nodup
theorem TrS.given{S:StoreD}{i:Nat}:∀ {T:TrD},TrS S i T→∀b∈T.pages,Z0r S b
 | .no,_,b,hb=>by cases hb
 | .yes d t,h,b,hb=>Z0k d t h.2.1 b hb
theorem TrS.nd{S:StoreD}{i:Nat}:∀ {T:TrD},TrS S i T→T.pages.Nodup
 | .no,_=>List.nodup_nil
 | .yes _ _,h=>h.2.2.2
theorem TrS.rise{S:StoreD}{i:Nat}:∀ {T:TrD},TrS S i T→Z8c T.list
 | .no,_=>List.Pairwise.nil
 | .yes d t,h=>Z4m d t h.2.2.1
theorem TrS.other{i j:Nat}{P:Nat→Prop}{F G:List Nat}{S S':StoreD}(hb:Big i P F G S S')(hj:j<16)(hne:j≠i):∀ {T:TrD},TrS S j T→(∀b∈T.pages,¬P b∧b∉F∧b∉G)→TrS S' j T
 | .no,h,_=>by show Z1v S' j=0;rw[hb.root j hj hne];exact h
 | .yes d t,h,hp=>⟨by rw[hb.root j hj hne];exact h.1,Y3m hb.frm d t h.2.1 hp,h.2.2⟩
def Y1u(S:StoreD)(i:Nat)(k v:ByteArray)(S':StoreD)(T':TrD):TrD→Prop
 | .no=>∃a,lowS S=some a∧S'=Z0o (layP (Z1e S a) a (Z4r k v)) i a∧T'= .yes 0 (LeafT.mk a [k] [v])
 | .yes d t=>∃S1 t' o,PutR d S t k v S1 t' o∧match o with
   | none=>S'=S1∧T'= .yes d t'
   | some x=>∃top,lowS S1=some top∧S'=Z0o (layP (Z1e S1 top) top ⟨false,[x.1],[],[(atT d t':Int),(atT d x.2:Int)]⟩) i top∧T'= .yes (d+1) (InT.mk top [x.1] [t',x.2])
structure PutTL (S:StoreD) (i:Nat) (T:TrD) (k v:ByteArray) (S':StoreD) (T':TrD) (F:List Nat):Prop where
 big:Big i (fun b=>b∈T.pages) F [] S S'
 nd:F.Nodup
 fresh:∀b∈F,Z0y S b=false∧2≤b∧b<S.head.pages
 len:F.length≤T.need
 tr:TrS S' i T'
 pages:T'.pages.Perm (T.pages++F)
 list:T'.list=Z6k T.list k v
theorem Y9k{S S':StoreD}{i:Nat}{k v:ByteArray}{T T':TrD}(hi:i<16)(h:Y1u S i k v S' T' T)(hf:Fm S)(ht:TrS S i T)(hk:Z3g k)(hv:v.size≤80):∃F,PutTL S i T k v S' T' F:=by
 have hm:=hf.most
 cases T with
 | no=>
   obtain⟨a,ha,rfl,rfl⟩:=h
   obtain⟨r1,r2,r3⟩:=Z4q ha
   have hk2:=hk.2
   have hnk:NodeOk (Z4r k v):=⟨fun x hx=>by simp[Z4r]at hx;subst hx;omega,fun x hx=>by simp[Z4r]at hx;subst hx;omega,fun c hc=>by simp[Z4r]at hc,by simp[Z4r],fun _=>⟨rfl,rfl⟩,fun q=>by cases q⟩
   have hsz:Z0m (Z4r k v)≤256:=by simp[Z0m,Z4r,Z0n];omega
   have t1:=Z6q hf.full r1 (by omega:a<2048)
   have g1:Z0r (Z1e S a) a:=t1.givenF r1 r2 (by simp) (by simp)
   have t2:=Z5c t1.full r1 hnk hsz
   have p2:=Z3y g1 hnk hsz
   have t12:=t1.trans (Q:=fun _=>False) t2 (fun b q=>by cases q) (fun b q=> .inr (.inl (by subst q;simp)))
   obtain⟨t3,hr3⟩:=Stp.setRoot (i:=i) (n:=a) t12 hi (by omega)
   have hp:PageN (Z0o (layP (Z1e S a) a (Z4r k v)) i a) a (Z4r k v):=
    ⟨⟨r1,r2,by rw[Y6n];exact p2.given.2.2⟩,p2.ok,p2.fits,by rw[Y6m _ _ _ _ (by omega)];exact p2.view⟩
   refine⟨[a],⟨?_,by simp,fun b q=> ?_,by simp[TrD.need],⟨hr3,hp,⟨List.pairwise_singleton _ _,rfl,fun x hx=> ?_,fun x hx=> ?_⟩,by simp[Z0a]⟩,List.Perm.refl _,?_⟩⟩
   ·have:=t3.mono (P':=fun b=>b∈TrD.pages .no) (fun b q=>(q.elim id id).elim)
    simpa using this
   ·simp only[List.mem_singleton]at q;subst q;exact⟨r3,r1,r2⟩
   ·simp only[List.mem_singleton]at hx;subst hx;exact hk
   ·simp only[List.mem_singleton]at hx;subst hx;exact hv
   ·rfl
 | yes d t=>
   obtain⟨hr,hon,hok,hnd⟩:=ht
   obtain⟨S1,t',o,h1,h2⟩:=h
   obtain⟨F,q⟩:=Z4z d h1 hf hon hok hk hv hnd
   have hun:∀b,Z0y S b=true→b∉F:=fun b hb r=>by rw[(q.fresh b r).1]at hb;cases hb
   have hnd':(Z0a d t'++Z8e d o).Nodup:=by
    refine q.pages.nodup_iff.2 ?_
    rw[List.nodup_append]
    exact⟨hnd,q.nd,fun a ha b hb e=>by subst e;exact hun a (Z0k d t hon a ha).2.2 hb⟩
   cases o with
   | none=>
     obtain⟨rfl,rfl⟩:=h2
     have e1:Z8e d none= []:=rfl
     have e2:X6s d none= []:=rfl
     refine⟨F,⟨q.stp.big i,q.nd,q.fresh,Nat.le_succ_of_le q.len,⟨by rw[q.stp.root,q.at_];exact hr,q.on,q.ok,by rw[e1,List.append_nil]at hnd';exact hnd'⟩,?_,?_⟩⟩
     ·have:=q.pages;rwa [e1,List.append_nil]at this
     ·have:=q.list;rwa [e2,List.append_nil]at this
   | some x=>
     obtain⟨mid,r⟩:=x
     obtain⟨top,htop,rfl,rfl⟩:=h2
     have hR:=q.right mid r rfl
     have hf1:=hf.stp q.stp (fun b q=>by cases q)
     obtain⟨r1,r2,r3⟩:=Z4q htop
     have hm1:=hf1.most
     have hmk:Z3g mid:=Y7q hok hk mid hR.key
     have hmk2:=hmk.2
     have ga:=Z0k d t' q.on _ (Z0q d t')
     have gr:=Z0k d r hR.on _ (Z0q d r)
     have hnk:NodeOk ⟨false,[mid],[],[(atT d t':Int),(atT d r:Int)]⟩:=by
      refine⟨fun x hx=> ?_,fun x hx=>by simp at hx,fun c hc=> ?_,by simp,(fun q=>by cases q),fun _=>⟨rfl,rfl⟩⟩
      ·simp only[List.mem_singleton]at hx;subst hx;omega
      ·have:=ga.2.1
       have:=gr.2.1
       simp only[List.mem_cons,List.not_mem_nil,or_false]at hc
       rcases hc with rfl | rfl<;>exact⟨by omega,by omega⟩
     have hsz:Z0m ⟨false,[mid],[],[(atT d t':Int),(atT d r:Int)]⟩≤256:=by simp[Z0m,Z0n];omega
     have t1:=Z6q hf1.full r1 (by omega:top<2048)
     have g1:Z0r (Z1e S1 top) top:=t1.givenF r1 r2 (by simp) (by simp)
     have t2:=Z5c t1.full r1 hnk hsz
     have p2:=Z3y g1 hnk hsz
     have t12:=t1.trans (Q:=fun _=>False) t2 (fun b q=>by cases q) (fun b q=> .inr (.inl (by subst q;simp)))
     obtain⟨t3,hr3⟩:=Stp.setRoot (i:=i) (n:=top) t12 hi (by omega)
     have tA:=(q.stp.big i).trans (Q:=fun _=>False) t3 (fun b _=>by simp) (fun b r=> .inr (.inr ((r.elim id id))))
     have hkid:∀c,onT S1 d c→onT (Z0o (layP (Z1e S1 top) top ⟨false,[mid],[],[(atT d t':Int),(atT d r:Int)]⟩) i top) d c:=fun c hc=>
      Y3m t3.frm d c hc (fun b hb=>by
       have hu:=(Z0k d c hc b hb).2.2
       refine⟨fun r=>(r.elim id id).elim,?_,by simp⟩
       simp only[List.append_nil,List.mem_singleton]
       intro e;subst e;rw[r3]at hu;cases hu)
     have hp:PageN (Z0o (layP (Z1e S1 top) top ⟨false,[mid],[],[(atT d t':Int),(atT d r:Int)]⟩) i top) top ⟨false,[mid],[],[(atT d t':Int),(atT d r:Int)]⟩:=
      ⟨⟨r1,r2,by rw[Y6n];exact p2.given.2.2⟩,p2.ok,p2.fits,by rw[Y6m _ _ _ _ (by omega)];exact p2.view⟩
     have htf:Z0y S top=false∧top∉F:=by
      have:=q.stp.used top
      constructor
      ·cases e:Z0y S top with
       | false=>rfl
       | true=>rw[this.2 ⟨.inl e,by simp⟩]at r3;cases r3
      ·intro e;rw[this.2 ⟨.inr e,by simp⟩]at r3;cases r3
     have hflat:(([t',r]:List (TT d)).flatMap (Z0a d))=Z0a d t'++Z0a d r:=by simp
     have hpo:Z8e d (some (mid,r))=Z0a d r:=rfl
     rw[hpo]at hnd'
     refine⟨F++ [top],⟨?_,?_,fun b hb=> ?_,?_,⟨hr3,⟨hp,fun c hc=> ?_⟩,⟨List.pairwise_singleton _ _,rfl,fun x hx=> ?_,fun c hc=> ?_,Z2g.2 (fun j c hc x hx i' s hs=> ?_),fun j c hc x hx i' s hs hij=> ?_⟩,?_⟩,?_,?_⟩⟩
     ·have:=tA.mono (P':=fun b=>b∈TrD.pages (.yes d t)) (fun b r=>r.elim id False.elim)
      simpa using this
     ·rw[List.nodup_append]
      exact⟨q.nd,by simp,fun a ha b hb e=>by simp only[List.mem_singleton]at hb;subst hb;subst e;exact htf.2 ha⟩
     ·rcases List.mem_append.1 hb with hb | hb
      ·exact q.fresh b hb
      ·simp only[List.mem_singleton]at hb;subst hb
       rw[q.stp.head]at r2
       exact⟨htf.1,r1,r2⟩
     ·rw[List.length_append];have:=q.len;simp only[List.length_singleton,TrD.need];omega
     ·simp only[List.mem_cons,List.not_mem_nil,or_false]at hc
      rcases hc with rfl | rfl
      ·exact hkid _ q.on
      ·exact hkid _ hR.on
     ·simp only[List.mem_singleton]at hx;subst hx;exact hmk
     ·simp only[List.mem_cons,List.not_mem_nil,or_false]at hc
      rcases hc with rfl | rfl
      ·exact q.ok
      ·exact hR.ok
     ·match i',hs with
      | 0,hs=>
        injection hs with hs
        subst hs
        match j,hc with
        | 0,hc=>injection hc with hc;subst hc;exact⟨fun q=>by omega,fun _=>hR.below x hx⟩
        | 1,hc=>injection hc with hc;subst hc;exact⟨fun _=>hR.above x hx,fun q=>by omega⟩
     ·match i',hs with
      | 0,hs=>
        injection hs with hs
        subst hs
        match j,hc with
        | 0,hc=>omega
        | 1,hc=>injection hc with hc;subst hc;exact hR.sabove x hx
     ·show(top::([t',r]:List (TT d)).flatMap (Z0a d)).Nodup
      rw[hflat,List.nodup_cons]
      refine⟨fun hb=> ?_,hnd'⟩
      have hu:Z0y S1 top=true:=by
       rcases List.mem_append.1 hb with hb | hb
       ·exact(Z0k d t' q.on _ hb).2.2
       ·exact(Z0k d r hR.on _ hb).2.2
      rw[r3]at hu;cases hu
     ·show(top::([t',r]:List (TT d)).flatMap (Z0a d)).Perm (Z0a d t++(F++ [top]))
      rw[hflat,←List.append_assoc]
      exact(List.Perm.cons top q.pages).trans (List.perm_append_singleton _ _).symm
     ·show([t',r]:List (TT d)).flatMap (Z0e d)=Z6k (Z0e d t) k v
      rw[←q.list]
      simp[X6s]
end Go.Proofs.YtmiolpfanlpfnaaGreat
