/- A tree loses a record, at any depth: plain. No conditions. -/
import Derived.Test.YtohaldfnmgcofaaGreatT22
import Derived.Test.YtohaldfnmgcofaaGreatT17
set_option maxRecDepth 100000
set_option maxHeartbeats 4000000
set_option linter.unusedSimpArgs false
set_option linter.unusedVariables false
namespace Go.Proofs.YtohaldfnmgcofaaGreat
open Go.RowKit
def Z3a:(d:Nat)->TT d->ByteArray->TT d->TT d
 | 0,a,_,b=>LeafT.mk (LeafT.at_ a) (LeafT.keys a++LeafT.keys b) (LeafT.vals a++LeafT.vals b)
 | _+1,a,s,b=>InT.mk (InT.at_ a) (InT.keys a++s::InT.keys b) (InT.kids a++InT.kids b)
def Z6t(d:Nat)(t:TT (d+1))(i:Nat)(c:TT d):TT (d+1):=InT.mk (InT.at_ t) ((InT.keys t).eraseIdx i) (((InT.kids t).set i c).eraseIdx (i+1))
def U2a(d:Nat)(S:StoreD)(t:TT (d+1))(i:Nat)(S':StoreD)(t':TT (d+1)):Prop:=
 ((InT.kids t).length<2/\S'=S/\t'=t)\/
 (2<=(InT.kids t).length/\∃a b s,(InT.kids t)[i]? =some a/\(InT.kids t)[i+1]? =some b/\(InT.keys t)[i]? =some s/\
   ((256<Z0n (Z0c d (Z3a d a s b))/\S'=S/\t'=t)\/
    (Z0n (Z0c d (Z3a d a s b))<=256/\S'=useP (layP (layP S (InT.at_ t) (Z0c (d+1) (Z6t d t i (Z3a d a s b)))) (atT d a) (Z0c d (Z3a d a s b))) (atT d b) false/\t'=Z6t d t i (Z3a d a s b))))
def V4j(t:LeafT)(k:ByteArray):LeafT:=⟨t.at_,(delN (Z0c 0 t) k).keys,(delN (Z0c 0 t) k).vals⟩
def Y2n:(d:Nat)->StoreD->TT d->ByteArray->StoreD->TT d->Prop
 | 0,S,t,k,S',t'=>S'=layP S (LeafT.at_ t) (Z0c 0 (V4j t k))/\t'=V4j t k
 | d+1,S,t,k,S',t'=>∃c,(InT.kids t)[Z0h (InT.keys t) k]? =some c/\∃S1 c',Y2n d S c k S1 c'/\U2a d S1 (InT.mk (InT.at_ t) (InT.keys t) ((InT.kids t).set (Z0h (InT.keys t) k) c')) (min (Z0h (InT.keys t) k) ((InT.kids t).length-2)) S' t'
structure LessL (d:Nat) (S:StoreD) (t:TT d) (l:List KV) (S':StoreD) (t':TT d) (G:List Nat):Prop where
 stp:Stp (fun b=>b∈Z0a d t) [] G S S'
 at_:atT d t'=atT d t
 on:onT S' d t'
 ok:okT d t'
 pages:(Z0a d t'++G).Perm (Z0a d t)
 list:Z0f d t'=l
 all:∀x∈allT d t',x∈allT d t
 sep:∀x∈sepT d t',x∈sepT d t
theorem LessL.nd{d:Nat}{S S':StoreD}{t t':TT d}{l:List KV}{G:List Nat}(h:LessL d S t l S' t' G)(hn:(Z0a d t).Nodup):(Z0a d t').Nodup/\G.Nodup/\(∀b∈G,b∈Z0a d t/\b∉Z0a d t')/\∀b∈Z0a d t',b∈Z0a d t:=by have h1:=h.pages.nodup_iff.2 hn;rw[List.nodup_append]at h1;exact⟨h1.1,h1.2.1,fun b hb=>⟨h.pages.mem_iff.1 (List.mem_append_right _ hb),fun q=>h1.2.2 b q b hb rfl⟩,fun b hb=>h.pages.mem_iff.1 (List.mem_append_left _ hb)⟩
theorem X3f(d:Nat)(a:TT d)(s:ByteArray)(b:TT d):atT d (Z3a d a s b)=atT d a:=by cases d<;>rfl
theorem V4u(d:Nat)(a:TT d)(s:ByteArray)(b:TT d)(ha:okT d a):Z0f d (Z3a d a s b)=Z0f d a++Z0f d b:=by
 cases d with
 | zero=>exact List.zip_append ha.2.1.symm
 | succ d=>exact aH
theorem X8p(d:Nat)(a:TT d)(s:ByteArray)(b:TT d):(Z0a d (Z3a d a s b)++ [atT d b]).Perm (Z0a d a++Z0a d b):=by
 cases d with
 | zero=>exact List.Perm.refl _
 | succ d=>
   show((InT.at_ a::(InT.kids a++InT.kids b).flatMap (Z0a d))++ [InT.at_ b]).Perm ((InT.at_ a::(InT.kids a).flatMap (Z0a d))++(InT.at_ b::(InT.kids b).flatMap (Z0a d)));rw[List.cons_append,List.cons_append,List.perm_cons,aH];refine(List.perm_append_singleton _ _).trans ?_;exact List.perm_middle.symm
theorem V9i(d:Nat)(a:TT d)(s:ByteArray)(b:TT d):∀x∈allT d (Z3a d a s b),x∈allT d a\/x=s\/x∈allT d b:=by
 cases d with
 | zero=>exact fun x hx=>(List.mem_append.1 hx).imp_right Or.inr
 | succ d=>
   intro x hx;have hx':x∈(InT.keys a++s::InT.keys b)++(InT.kids a++InT.kids b).flatMap (allT d):=hx;show x∈InT.keys a++(InT.kids a).flatMap (allT d)\/x=s\/x∈InT.keys b++(InT.kids b).flatMap (allT d);rw[aH]at hx';simp only[List.mem_append,List.mem_cons]at hx' ⊢;rcases hx' with (q | q | q) | q | q
   ·exact .inl (.inl q)
   ·exact .inr (.inl q)
   ·exact .inr (.inr (.inl q))
   ·exact .inl (.inr q)
   ·exact .inr (.inr (.inr q))
theorem U1q(d:Nat)(a:TT d)(s:ByteArray)(b:TT d)(ha:okT d a)(hb:okT d b)(hs:Z2o s)(h1:∀x∈allT d a,ltB x s=true)(h2:∀x∈allT d b,ltB x s=false)(h3:∀x∈sepT d b,ltB s x=true):okT d (Z3a d a s b):=by
 cases d with
 | zero=>
   obtain⟨a1,a2,a3,a4⟩:=ha;obtain⟨b1,b2,b3,b4⟩:=hb;refine⟨?_,?_,fun x hx=>(List.mem_append.1 hx).elim (a3 x) (b3 x),fun x hx=>(List.mem_append.1 hx).elim (a4 x) (b4 x)⟩
   ·show(LeafT.keys a++LeafT.keys b).Pairwise _;rw[List.pairwise_append];exact⟨a1,b1,fun x hx y hy=>Z3q (h1 x hx) (h2 y hy)⟩
   ·show(LeafT.vals a++LeafT.vals b).length=(LeafT.keys a++LeafT.keys b).length;rw[aA,aA,a2,b2]
 | succ d=>
   obtain⟨a1,a2,a3,a4,a5,a6⟩:=ha;obtain⟨b1,b2,b3,b4,b5,b6⟩:=hb;have sb:∀x∈InT.keys b,x∈sepT (d+1) b:=fun x hx=>List.mem_append_left _ hx;have tb:∀c∈InT.kids b,∀x∈sepT d c,x∈sepT (d+1) b:=fun c hc x hx=>List.mem_append_right _ (List.mem_flatMap.2 ⟨c,hc,hx⟩);have ka:∀x∈InT.keys a,x∈allT (d+1) a:=fun x hx=>List.mem_append_left _ hx;have kb:∀x∈InT.keys b,x∈allT (d+1) b:=fun x hx=>List.mem_append_left _ hx;have ca:∀c∈InT.kids a,∀x∈allT d c,x∈allT (d+1) a:=fun c hc x hx=>List.mem_append_right _ (List.mem_flatMap.2 ⟨c,hc,hx⟩);have cb:∀c∈InT.kids b,∀x∈allT d c,x∈allT (d+1) b:=fun c hc x hx=>List.mem_append_right _ (List.mem_flatMap.2 ⟨c,hc,hx⟩);refine⟨?_,?_,fun x hx=> ?_,fun c hc=>(List.mem_append.1 hc).elim (a4 c) (b4 c),Z2f.2 (fun j c hc x hx i u hu=> ?_),fun j c hc x hx i u hu hij=> ?_⟩
   ·show(InT.keys a++s::InT.keys b).Pairwise _;rw[List.pairwise_append,List.pairwise_cons];refine⟨a1,⟨fun x hx=>h3 x (sb x hx),b1⟩,fun x hx y hy=> ?_⟩;rcases List.mem_cons.1 hy with rfl | hy
    ·exact h1 x (ka x hx)
    ·exact Z1q (h1 x (ka x hx)) (h3 y (sb y hy))
   ·show(InT.kids a++InT.kids b).length=(InT.keys a++s::InT.keys b).length+1;rw[aA,aA,List.length_cons,a2,b2];omega
   ·rcases List.mem_append.1 hx with hx | hx
    ·exact a3 x hx
    ·rcases List.mem_cons.1 hx with rfl | hx
     ·exact hs
     ·exact b3 x hx
   ·have hc':(InT.kids a++InT.kids b)[j]? =some c:=hc;have hu':(InT.keys a++s::InT.keys b)[i]? =some u:=hu;rw[List.getElem?_append]at hc' hu';by_cases e1:j<(InT.kids a).length
    ·rw[if_pos e1]at hc';have hcm:=List.mem_of_getElem? hc';have hxs:=h1 x (ca c hcm x hx);by_cases f1:i<(InT.keys a).length
     ·rw[if_pos f1]at hu';exact Z2f.1 a5 j c hc' x hx i u hu'
     ·rw[if_neg f1]at hu';refine⟨fun q=>by omega,fun _=> ?_⟩;rcases Nat.eq_zero_or_pos (i-(InT.keys a).length)with e | e
      ·rw[e]at hu';injection hu' with hu';subst hu';exact hxs
      ·obtain⟨p,hp⟩:∃p,i-(InT.keys a).length=p+1:=⟨i-(InT.keys a).length-1,by omega⟩;rw[hp,List.getElem?_cons_succ]at hu';exact Z1q hxs (h3 u (sb u (List.mem_of_getElem? hu')))
    ·rw[if_neg e1]at hc';have hcm:=List.mem_of_getElem? hc';have hxs:=h2 x (cb c hcm x hx);by_cases f1:i<(InT.keys a).length
     ·rw[if_pos f1]at hu';refine⟨fun _=>le_of_lt (Z3q (h1 u (ka u (List.mem_of_getElem? hu'))) hxs),fun q=>by omega⟩
     ·rw[if_neg f1]at hu';rcases Nat.eq_zero_or_pos (i-(InT.keys a).length)with e | e
      ·rw[e]at hu';injection hu' with hu';subst hu';exact⟨fun _=>hxs,fun q=>by omega⟩
      ·obtain⟨p,hp⟩:∃p,i-(InT.keys a).length=p+1:=⟨i-(InT.keys a).length-1,by omega⟩;rw[hp,List.getElem?_cons_succ]at hu';have:=Z2f.1 b5 _ c hc' x hx p u hu';exact⟨fun q=>this.1 (by omega),fun q=>this.2 (by omega)⟩
   ·have hc':(InT.kids a++InT.kids b)[j]? =some c:=hc;have hu':(InT.keys a++s::InT.keys b)[i]? =some u:=hu;rw[List.getElem?_append]at hc' hu';by_cases e1:j<(InT.kids a).length
    ·rw[if_pos e1]at hc';rw[if_pos (by omega)]at hu';exact a6 j c hc' x hx i u hu' hij
    ·rw[if_neg e1]at hc';have hxs:=h3 x (tb c (List.mem_of_getElem? hc') x hx);by_cases f1:i<(InT.keys a).length
     ·rw[if_pos f1]at hu';exact Z1q (h1 u (ka u (List.mem_of_getElem? hu'))) hxs
     ·rw[if_neg f1]at hu';rcases Nat.eq_zero_or_pos (i-(InT.keys a).length)with e | e
      ·rw[e]at hu';injection hu' with hu';subst hu';exact hxs
      ·obtain⟨p,hp⟩:∃p,i-(InT.keys a).length=p+1:=⟨i-(InT.keys a).length-1,by omega⟩;rw[hp,List.getElem?_cons_succ]at hu';exact b6 _ c hc' x hx p u hu' (by omega)
theorem V9g(d:Nat)(a:TT d)(s:ByteArray)(b:TT d):∀x∈sepT d (Z3a d a s b),x∈sepT d a\/x=s\/x∈sepT d b:=by
 cases d with
 | zero=>exact fun x hx=> .inl hx
 | succ d=>
   intro x hx;have hx':x∈(InT.keys a++s::InT.keys b)++(InT.kids a++InT.kids b).flatMap (sepT d):=hx;show x∈InT.keys a++(InT.kids a).flatMap (sepT d)\/x=s\/x∈InT.keys b++(InT.kids b).flatMap (sepT d);rw[aH]at hx';simp only[List.mem_append,List.mem_cons]at hx' ⊢;rcases hx' with (q | q | q) | q | q
   ·exact .inl (.inl q)
   ·exact .inr (.inl q)
   ·exact .inr (.inr (.inl q))
   ·exact .inl (.inr q)
   ·exact .inr (.inr (.inr q))
theorem V9h{S:StoreD}(d:Nat)(a:TT d)(s:ByteArray)(b:TT d)(hok:okT d (Z3a d a s b))(ha:onT S d a)(hb:onT S d b)(hm:S.head.pages<=1024)(hs:Z0n (Z0c d (Z3a d a s b))<=256):NodeOk (Z0c d (Z3a d a s b)):=by
 have h9:=Z8g (Z0c d (Z3a d a s b));cases d with
 | zero=>
   refine⟨fun x hx=>by have:=(hok.2.2.1 x hx).2;omega,fun x hx=>by have:=hok.2.2.2 x hx;omega,fun c hc=>by simp[Z0c]at hc,by omega,fun _=>⟨hok.2.1,rfl⟩,fun q=>by cases q⟩
 | succ d=>
   refine⟨fun x hx=>by have:=(hok.2.2.1 x hx).2;omega,fun x hx=>by simp[Z0c]at hx,Y8j (S:=S) (fun c hc=> ?_) hm,by omega,(fun q=>by cases q),fun _=>⟨rfl,?_⟩⟩
   ·rcases List.mem_append.1 (show c∈InT.kids a++InT.kids b from hc)with q | q
    ·exact ha.2 c q
    ·exact hb.2 c q
   ·show((InT.kids (Z3a (d+1) a s b)).map _).length=_;rw[List.length_map];exact hok.2.1
theorem V9s{α:Type}(ts:List α){i:Nat}(hi:i+1<ts.length)(c:α):(ts.set i c).eraseIdx (i+1)=ts.take i++c::ts.drop (i+2):=by
 rw[List.eraseIdx_eq_take_drop_succ,List.set_eq_take_append_cons_drop,if_pos (by omega)];have h1:(ts.take i++c::ts.drop (i+1)).take (i+1)=ts.take i++ [c]:=by rw[List.take_append,aD,Nat.min_eq_left (by omega),List.take_of_length_le (by rw[aD];omega),show i+1-i=1 by omega];rfl
 have h2:(ts.take i++c::ts.drop (i+1)).drop (i+1+1)=ts.drop (i+2):=by rw[List.drop_append,aD,Nat.min_eq_left (by omega),List.drop_eq_nil_of_le (by rw[aD];omega),show i+1+1-i=1+1 by omega,List.drop_succ_cons,List.drop_drop];rfl
 rw[h1,h2];simp
theorem cut2{α:Type}(ts:List α){i:Nat}(hi:i+1<ts.length):ts=ts.take i++ts[i]::ts[i+1]::ts.drop (i+2):=by
 conv=>lhs;rw[<-List.take_append_drop i ts,List.drop_eq_getElem_cons (by omega),List.drop_eq_getElem_cons hi]
theorem Y1y{α:Type}(ts:List α){i:Nat}(hi:i+1<ts.length)(c:α)(j:Nat):((ts.set i c).eraseIdx (i+1))[j]? =if j<i then ts[j]? else if j=i then some c else ts[j+1]? :=by
 rw[List.getElem?_eraseIdx];by_cases h1:j<i
 ·rw[if_pos (by omega),List.getElem?_set,if_neg (by omega),if_pos h1]
 ·by_cases h2:j=i
  ·subst h2;rw[if_pos (by omega),List.getElem?_set,if_pos rfl,if_pos (by omega),if_neg h1,if_pos rfl]
  ·rw[if_neg (by omega),List.getElem?_set,if_neg (by omega),if_neg h1,if_neg h2]
theorem X5e{d:Nat}{S:StoreD}{t:TT (d+1)}{i:Nat}{a b:TT d}{s:ByteArray}(hf:Fm S)(hon:onT S (d+1) t)(hok:okT (d+1) t)(hnd:(Z0a (d+1) t).Nodup)(ha:(InT.kids t)[i]? =some a)(hb:(InT.kids t)[i+1]? =some b)(hs:(InT.keys t)[i]? =some s)(hsz:Z0n (Z0c d (Z3a d a s b))<=256):
  LessL (d+1) S t (Z0f (d+1) t) (useP (layP (layP S (InT.at_ t) (Z0c (d+1) (Z6t d t i (Z3a d a s b)))) (atT d a) (Z0c d (Z3a d a s b))) (atT d b) false) (Z6t d t i (Z3a d a s b)) [atT d b]/\NodeOk (Z0c (d+1) (Z6t d t i (Z3a d a s b)))/\Z0n (Z0c (d+1) (Z6t d t i (Z3a d a s b)))<=256/\NodeOk (Z0c d (Z3a d a s b))/\Z0s (layP S (InT.at_ t) (Z0c (d+1) (Z6t d t i (Z3a d a s b)))) (atT d a)/\Z0s (layP (layP S (InT.at_ t) (Z0c (d+1) (Z6t d t i (Z3a d a s b)))) (atT d a) (Z0c d (Z3a d a s b))) (atT d b):=by
 obtain⟨n1,n2⟩:=Z1c hnd;obtain⟨k1,k2,k3,k4,k5,k6⟩:=hok;obtain⟨hi1,ha'⟩:=aC.1 ha;obtain⟨hi2,hb'⟩:=aC.1 hb;obtain⟨hi3,hs'⟩:=aC.1 hs;have ham:a∈InT.kids t:=ha'▸List.getElem_mem hi1;have hbm:b∈InT.kids t:=hb'▸List.getElem_mem hi2;have hsm:s∈InT.keys t:=hs'▸List.getElem_mem hi3;have sp:=Z2f.1 k5;have h1:∀x∈allT d a,ltB x s=true:=fun x hx=>(sp i a ha x hx i s hs).2 (aF _);have h2:∀x∈allT d b,ltB x s=false:=fun x hx=>(sp (i+1) b hb x hx i s hs).1 (Nat.lt_succ_self _);have h3:∀x∈sepT d b,ltB s x=true:=fun x hx=>k6 (i+1) b hb x hx i s hs (Nat.lt_succ_self _);have okB:=U1q d a s b (k4 a ham) (k4 b hbm) (k3 s hsm) h1 h2 h3;have nB:=V9h (S:=S) d a s b okB (hon.2 a ham) (hon.2 b hbm) hf.most hsz;generalize hB:Z3a d a s b=B at *;have hBa:atT d B=atT d a:=by rw[<-hB];exact X3f d a s b
 have hBall:∀x∈allT d B,x∈allT d a\/x=s\/x∈allT d b:=by rw[<-hB];exact V9i d a s b
 have hBsep:∀x∈sepT d B,x∈sepT d a\/x=s\/x∈sepT d b:=by rw[<-hB];exact V9g d a s b
 have hBp:(Z0a d B++ [atT d b]).Perm (Z0a d a++Z0a d b):=by rw[<-hB];exact X8p d a s b
 have hBl:Z0f d B=Z0f d a++Z0f d b:=by rw[<-hB];exact V4u d a s b (k4 a ham)
 have hk2:∀e,e∈((InT.kids t).set i B).eraseIdx (i+1)->e=B\/∃j,(InT.kids t)[j]? =some e/\j≠i/\j≠i+1:=fun e he=>by
  obtain⟨j,hj⟩:=List.mem_iff_getElem?.1 he;rw[Y1y _ hi2]at hj;by_cases e1:j<i
  ·rw[if_pos e1]at hj;exact .inr ⟨j,hj,by omega,by omega⟩
  ·rw[if_neg e1]at hj;by_cases e2:j=i
   ·rw[if_pos e2]at hj;injection hj with hj;exact .inl hj.symm
   ·rw[if_neg e2]at hj;exact .inr ⟨j+1,hj,by omega,by omega⟩
 have hwB:∀x∈allT d B,∀(p:Nat) (u:ByteArray),(InT.keys t)[p]? =some u->(p<i->ltB x u=false)/\(i+1<=p->ltB x u=true):=fun x hx p u hu=>by
  rcases hBall x hx with q | q | q
  ·have:=sp i a ha x q p u hu;exact⟨this.1,fun r=>this.2 (by omega)⟩
  ·subst q;obtain⟨hp,hpe⟩:=aC.1 hu;subst hpe;rw[<-hs'];exact⟨fun r=>le_of_lt (Z1u k1 hi3 r),fun r=>Z1u k1 hp (by omega)⟩
  ·have:=sp (i+1) b hb x q p u hu;exact⟨fun r=>this.1 (by omega),this.2⟩
 have hoL:okT (d+1) (Z6t d t i B):=by
  refine⟨k1.sublist (List.eraseIdx_sublist _ _),?_,fun x hx=>k3 x (List.mem_of_mem_eraseIdx hx),fun e he=> ?_,Z2f.2 (fun j e hj x hx p u hu=> ?_),fun j e hj x hx p u hu hpj=> ?_⟩
  ·show(((InT.kids t).set i B).eraseIdx (i+1)).length=((InT.keys t).eraseIdx i).length+1;rw[List.length_eraseIdx,List.length_set,List.length_eraseIdx,if_pos (by omega),if_pos hi3];omega
  ·rcases hk2 e he with rfl | ⟨j,hj,_⟩
   ·exact okB
   ·exact k4 e (List.mem_of_getElem? hj)
  ·have hj':(((InT.kids t).set i B).eraseIdx (i+1))[j]? =some e:=hj;have hu':((InT.keys t).eraseIdx i)[p]? =some u:=hu;rw[Y1y _ hi2]at hj';rw[List.getElem?_eraseIdx]at hu';by_cases e1:j<i
   ·rw[if_pos e1]at hj';by_cases f:p<i
    ·rw[if_pos f]at hu';exact sp j e hj' x hx p u hu'
    ·rw[if_neg f]at hu';have:=sp j e hj' x hx (p+1) u hu';exact⟨fun r=>by omega,fun r=>this.2 (by omega)⟩
   ·rw[if_neg e1]at hj';by_cases e2:j=i
    ·rw[if_pos e2]at hj';injection hj' with hj';subst hj';by_cases f:p<i
     ·rw[if_pos f]at hu';have:=hwB x hx p u hu';exact⟨fun r=>this.1 f,fun r=>by omega⟩
     ·rw[if_neg f]at hu';have:=hwB x hx (p+1) u hu';exact⟨fun r=>by omega,fun r=>this.2 (by omega)⟩
    ·rw[if_neg e2]at hj';by_cases f:p<i
     ·rw[if_pos f]at hu';have:=sp (j+1) e hj' x hx p u hu';exact⟨fun r=>this.1 (by omega),fun r=>by omega⟩
     ·rw[if_neg f]at hu';have:=sp (j+1) e hj' x hx (p+1) u hu';exact⟨fun r=>this.1 (by omega),fun r=>this.2 (by omega)⟩
  ·have hj':(((InT.kids t).set i B).eraseIdx (i+1))[j]? =some e:=hj;have hu':((InT.keys t).eraseIdx i)[p]? =some u:=hu;rw[Y1y _ hi2]at hj';rw[List.getElem?_eraseIdx]at hu';by_cases e1:j<i
   ·rw[if_pos e1]at hj';rw[if_pos (by omega)]at hu';exact k6 j e hj' x hx p u hu' hpj
   ·rw[if_neg e1]at hj';by_cases e2:j=i
    ·rw[if_pos e2]at hj';injection hj' with hj';subst hj';rw[if_pos (by omega)]at hu';rcases hBsep x hx with q | q | q
     ·exact k6 i a ha x q p u hu' (by omega)
     ·subst q;obtain⟨hp,hpe⟩:=aC.1 hu';subst hpe;rw[<-hs'];exact Z1u k1 hi3 (by omega)
     ·exact k6 (i+1) b hb x q p u hu' (by omega)
    ·rw[if_neg e2]at hj';by_cases f:p<i
     ·rw[if_pos f]at hu';exact k6 (j+1) e hj' x hx p u hu' (by omega)
     ·rw[if_neg f]at hu';exact k6 (j+1) e hj' x hx (p+1) u hu' (by omega)
 have hsmall:=hon.1.small;have hn1:NodeOk (Z0c (d+1) (Z6t d t i B)):=by
  refine⟨fun x hx=>by have:=(hoL.2.2.1 x hx).2;omega,fun x hx=>by simp[Z0c]at hx,fun c hc=> ?_,?_,(fun q=>by cases q),fun _=>⟨rfl,?_⟩⟩
  ·obtain⟨e,he,rfl⟩:=List.mem_map.1 hc;have hg:Z0s S (atT d e):=by
    rcases hk2 e he with rfl | ⟨j,hj,_⟩
    ·rw[hBa];exact Z0l d a (hon.2 a ham) _ (Z0r d a)
    ·exact Z0l d e (hon.2 e (List.mem_of_getElem? hj)) _ (Z0r d e)
   have:=hg.2.1;have:=hf.most;exact⟨by omega,by omega⟩
  ·have h9:=Z8g (Z0c (d+1) t);have h8:(Z0c (d+1) t).keys.length=(InT.keys t).length:=rfl;show((InT.keys t).eraseIdx i).length<=255;have:=List.length_eraseIdx_le (InT.keys t) i;omega
  ·show((((InT.kids t).set i B).eraseIdx (i+1)).map _).length=_;rw[List.length_map];exact hoL.2.1
 have hz1:Z0n (Z0c (d+1) (Z6t d t i B))<=256:=by rw[Z8m]at hsmall;refine Nat.le_trans (Nat.le_of_eq (Z8m (Z6t d t i B))) ?_;show 2+2*(((InT.kids t).set i B).eraseIdx (i+1)).length+Z0o ((InT.keys t).eraseIdx i)<=256;have h9:=List.length_eraseIdx_le ((InT.kids t).set i B) (i+1);rw[List.length_set]at h9;have:=Z9d (InT.keys t) i;omega
 have ga:Z0s S (atT d a):=Z0l d a (hon.2 a ham) _ (Z0r d a);have gb:Z0s S (atT d b):=Z0l d b (hon.2 b hbm) _ (Z0r d b);have hm:=hf.most;have t1:=Z5n hf.full hon.1.given.1 hn1 hz1;have p1:=Z4f hon.1.given hn1 hz1;have ga1:Z0s (layP S (InT.at_ t) (Z0c (d+1) (Z6t d t i B))) (atT d a):=t1.given ga (by simp);have t2:=Z5n t1.full ga.1 nB hsz;have p2:=Z4f ga1 nB hsz;have gb2:Z0s (layP (layP S (InT.at_ t) (Z0c (d+1) (Z6t d t i B))) (atT d a) (Z0c d B)) (atT d b):=t2.given (t1.given gb (by simp)) (by simp);have t3:=Y2q t2.full (n:=atT d b) (by have:=gb.2.1;omega);have hat1:InT.at_ t≠atT d a:=fun e=>(n1 a ham).1 (e▸Z0r d a);have hat2:InT.at_ t≠atT d b:=fun e=>(n1 b hbm).1 (e▸Z0r d b);have hab:atT d a≠atT d b:=fun e=>n2 i (i+1) a b ha hb (by omega) _ (Z0r d a) (e▸Z0r d b);have t12:=t1.trans (Q:=fun b=>b=atT d a) t2 (fun b q=>by cases q) (fun b q=> .inr (.inr q));have t123:=t12.trans (Q:=fun _=>False) t3 (fun b q=>by cases q) (fun b q=>q.elim);refine⟨⟨?_,rfl,⟨?_,fun e he=> ?_⟩,hoL,?_,?_,fun x hx=> ?_,fun x hx=> ?_⟩,hn1,hz1,nB,ga1,gb2⟩
 ·have:=t123.mono (P':=fun b=>b∈Z0a (d+1) t) (fun b q=>by
   show b∈InT.at_ t::(InT.kids t).flatMap (Z0a d);rcases q with (q | q) | q
   ·rw[q];exact List.mem_cons_self
   ·rw[q];exact List.mem_cons_of_mem _ (List.mem_flatMap.2 ⟨a,ham,Z0r d a⟩)
   ·exact q.elim)
  simpa using this
 ·exact(p1.stp t2 hat1 (by simp) (by simp)).stp t3 (fun q=>q) (by simp) (by simpa using hat2)
 ·have far:∀c,c∈InT.kids t->(∀b'∈Z0a d c,b'≠atT d a/\b'≠atT d b)->onT (useP (layP (layP S (InT.at_ t) (Z0c (d+1) (Z6t d t i B))) (atT d a) (Z0c d B)) (atT d b) false) d c:=fun c hc hn=>
   Z7l t123 d c (hon.2 c hc) (fun b' q=>⟨fun r=>by
    rcases r with (r | r) | r
    ·rw[r]at q;exact(n1 c hc).1 q
    ·exact(hn b' q).1 r
    ·exact r,by simp,by simpa using (hn b' q).2⟩)
  rcases hk2 e he with rfl | ⟨j,hj,j1,j2⟩
  ·have p3:=p2.stp t3 (fun q=>q) (by simp) (by simpa using hab);have p3':PageN (useP (layP (layP S (InT.at_ t) (Z0c (d+1) (Z6t d t i e))) (atT d a) (Z0c d e)) (atT d b) false) (atT d e) (Z0c d e):=by rw[hBa];exact p3
   clear p3;have dis:∀x∈Z0a d a,x∉Z0a d b:=fun x hx=>n2 i (i+1) a b ha hb (by omega) x hx;cases d with
   | zero=>exact p3'
   | succ d=>
     refine⟨p3',fun c hc=> ?_⟩;have hc':c∈InT.kids a++InT.kids b:=by rw[<-hB]at hc;exact hc
     have oc:onT S d c:=(List.mem_append.1 hc').elim ((hon.2 a ham).2 c) ((hon.2 b hbm).2 c);refine Z7l t123 d c oc (fun b' q=> ?_);have na:=(n1 a ham).2;have nb:=(n1 b hbm).2;rcases List.mem_append.1 hc' with hc' | hc'
     ·have q2:b'∈Z0a (d+1) a:=List.mem_cons_of_mem _ (List.mem_flatMap.2 ⟨c,hc',q⟩);refine⟨fun r=> ?_,by simp,fun r=> ?_⟩
      ·rcases r with (r | r) | r
       ·rw[r]at q2;exact(n1 a ham).1 q2
       ·rw[r]at q;exact((Z1c na).1 c hc').1 q
       ·exact r
      ·simp only[List.nil_append,List.append_nil,List.mem_singleton]at r;rw[r]at q2;exact dis _ q2 (Z0r (d+1) b)
     ·have q2:b'∈Z0a (d+1) b:=List.mem_cons_of_mem _ (List.mem_flatMap.2 ⟨c,hc',q⟩);refine⟨fun r=> ?_,by simp,fun r=> ?_⟩
      ·rcases r with (r | r) | r
       ·rw[r]at q2;exact(n1 b hbm).1 q2
       ·rw[r]at q2;exact dis _ (Z0r (d+1) a) q2
       ·exact r
      ·simp only[List.nil_append,List.append_nil,List.mem_singleton]at r;rw[r]at q;exact((Z1c nb).1 c hc').1 q
  ·have hem:=List.mem_of_getElem? hj;exact far e hem (fun b' q=>⟨fun r=>n2 j i e a hj ha j1 b' q (r▸Z0r d a),fun r=>n2 j (i+1) e b hj hb j2 b' q (r▸Z0r d b)⟩)
 ·show(InT.at_ t::(((InT.kids t).set i B).eraseIdx (i+1)).flatMap (Z0a d)++ [atT d b]).Perm (InT.at_ t::(InT.kids t).flatMap (Z0a d));rw[List.cons_append,List.perm_cons,V9s _ hi2]
  conv=>rhs;rw[cut2 (InT.kids t) hi2,ha',hb']
  simp only[aH,aI];generalize ((InT.kids t).take i).flatMap (Z0a d)=X;generalize ((InT.kids t).drop (i+2)).flatMap (Z0a d)=Y;rw[aG];refine List.Perm.append_left X ?_;rw[aG];refine(List.perm_append_comm.append_left _).trans ?_;rw[<-aG,<-aG];exact hBp.append_right Y
 ·show(((InT.kids t).set i B).eraseIdx (i+1)).flatMap (Z0f d)=(InT.kids t).flatMap (Z0f d);rw[V9s _ hi2]
  conv=>rhs;rw[cut2 (InT.kids t) hi2,ha',hb']
  simp only[aH,aI,hBl,aG]
 ·have hx':x∈(InT.keys t).eraseIdx i++(((InT.kids t).set i B).eraseIdx (i+1)).flatMap (allT d):=hx;show x∈InT.keys t++(InT.kids t).flatMap (allT d);rw[List.mem_append,List.mem_flatMap]at hx';rcases hx' with q | ⟨e,q1,q2⟩
  ·exact List.mem_append_left _ (List.mem_of_mem_eraseIdx q)
  ·rcases hk2 e q1 with rfl | ⟨j,hj,_⟩
   ·rcases hBall x q2 with r | r | r
    ·exact List.mem_append_right _ (List.mem_flatMap.2 ⟨a,ham,r⟩)
    ·subst r;exact List.mem_append_left _ hsm
    ·exact List.mem_append_right _ (List.mem_flatMap.2 ⟨b,hbm,r⟩)
   ·exact List.mem_append_right _ (List.mem_flatMap.2 ⟨e,List.mem_of_getElem? hj,q2⟩)
 ·have hx':x∈(InT.keys t).eraseIdx i++(((InT.kids t).set i B).eraseIdx (i+1)).flatMap (sepT d):=hx;show x∈InT.keys t++(InT.kids t).flatMap (sepT d);rw[List.mem_append,List.mem_flatMap]at hx';rcases hx' with q | ⟨e,q1,q2⟩
  ·exact List.mem_append_left _ (List.mem_of_mem_eraseIdx q)
  ·rcases hk2 e q1 with rfl | ⟨j,hj,_⟩
   ·rcases hBsep x q2 with r | r | r
    ·exact List.mem_append_right _ (List.mem_flatMap.2 ⟨a,ham,r⟩)
    ·subst r;exact List.mem_append_left _ hsm
    ·exact List.mem_append_right _ (List.mem_flatMap.2 ⟨b,hbm,r⟩)
   ·exact List.mem_append_right _ (List.mem_flatMap.2 ⟨e,List.mem_of_getElem? hj,q2⟩)
theorem LessL.same{d:Nat}{S:StoreD}{t:TT d}(hf:Fm S)(hon:onT S d t)(hok:okT d t):LessL d S t (Z0f d t) S t []:=
 ⟨Stp.refl hf.full,rfl,hon,hok,by simp,rfl,fun _ h=>h,fun _ h=>h⟩
theorem LessL.fm{d:Nat}{S S':StoreD}{t t':TT d}{l:List KV}{G:List Nat}(h:LessL d S t l S' t' G)(hf:Fm S)(hon:onT S d t):Fm S':=
 hf.stp h.stp (fun b hb=>(Z0l d t hon b (h.pages.mem_iff.1 (List.mem_append_right _ hb))).1)
theorem LessL.trans{d:Nat}{S S' S'':StoreD}{t t' t'':TT d}{l l':List KV}{G G':List Nat}(h:LessL d S t l S' t' G)(k:LessL d S' t' l' S'' t'' G')(hn:(Z0a d t).Nodup):LessL d S t l' S'' t'' (G++G'):=by
 obtain⟨n1,n2,n3,n4⟩:=h.nd hn;refine⟨?_,k.at_.trans h.at_,k.on,k.ok,?_,k.list,fun x hx=>h.all x (k.all x hx),fun x hx=>h.sep x (k.sep x hx)⟩
 ·have:=h.stp.trans (Q:=fun _=>False) k.stp (fun b q=>by cases q) (fun b q=> .inl (n4 b q));exact(by simpa using this.mono (P':=fun b=>b∈Z0a d t) (fun b q=>q.elim id False.elim))
 ·rw[<-aG];refine(List.Perm.append_right G' List.perm_append_comm).trans ?_ |>.trans h.pages
  rw[aG];exact(k.pages.append_left G).trans List.perm_append_comm
theorem V2t{d:Nat}{S S':StoreD}{t t':TT (d+1)}{i:Nat}(h:U2a d S t i S' t')(hf:Fm S)(hon:onT S (d+1) t)(hok:okT (d+1) t)(hnd:(Z0a (d+1) t).Nodup):∃G,LessL (d+1) S t (Z0f (d+1) t) S' t' G:=by
 rcases h with ⟨_,rfl,rfl⟩ | ⟨_,a,b,s,ha,hb,hs,⟨_,rfl,rfl⟩ | ⟨hz,rfl,rfl⟩⟩
 ·exact⟨[],LessL.same hf hon hok⟩
 ·exact⟨[],LessL.same hf hon hok⟩
 ·exact⟨_,(X5e hf hon hok hnd ha hb hs hz).1⟩
theorem X9m{d:Nat}{S S1:StoreD}{t:TT (d+1)}{k:ByteArray}{c c':TT d}{G1:List Nat}(hf:Fm S)(hon:onT S (d+1) t)(hok:okT (d+1) t)(hnd:(Z0a (d+1) t).Nodup)(hc:(InT.kids t)[Z0h (InT.keys t) k]? =some c)(h:LessL d S c (Z7w (Z0f d c) k) S1 c' G1):
  LessL (d+1) S t (Z7w (Z0f (d+1) t) k) S1 (InT.mk (InT.at_ t) (InT.keys t) ((InT.kids t).set (Z0h (InT.keys t) k) c')) G1:=by
 obtain⟨hj,hce⟩:=aC.1 hc;have hcm:c∈InT.kids t:=hce▸List.getElem_mem hj;obtain⟨n1,n2⟩:=Z1c hnd;have hok':=hok;obtain⟨k1,k2,k3,k4,k5,k6⟩:=hok;have hG:∀b∈G1,b∈Z0a d c:=fun b hb=>h.pages.mem_iff.1 (List.mem_append_right _ hb);have hpg:∀b∈Z0a d c,b∈Z0a (d+1) t:=fun b hb=>by show b∈InT.at_ t::_;exact List.mem_cons_of_mem _ (List.mem_flatMap.2 ⟨c,hcm,hb⟩)
 have hk2:∀e,e∈(InT.kids t).set (Z0h (InT.keys t) k) c'->e=c'\/∃j,(InT.kids t)[j]? =some e/\j≠Z0h (InT.keys t) k:=fun e he=>by
  obtain⟨j,hj'⟩:=List.mem_iff_getElem?.1 he;rw[List.getElem?_set]at hj';by_cases e1:Z0h (InT.keys t) k=j
  ·rw[if_pos e1,if_pos hj]at hj';injection hj' with hj';exact .inl hj'.symm
  ·rw[if_neg e1]at hj';exact .inr ⟨j,hj',fun q=>e1 q.symm⟩
 refine⟨h.stp.mono hpg,rfl,⟨?_,fun e he=> ?_⟩,⟨k1,by show((InT.kids t).set _ _).length=_;rw[List.length_set];exact k2,k3,fun e he=> ?_,V0h k5 (fun x hx i s hs=>Z2f.1 k5 _ _ hc x (h.all x hx) i s hs),V0a k6 (fun x hx i s hs hi=>k6 _ c hc x (h.sep x hx) i s hs hi)⟩,?_,?_,fun x hx=> ?_,fun x hx=> ?_⟩
 ·have e1:Z0c (d+1) (InT.mk (InT.at_ t) (InT.keys t) ((InT.kids t).set (Z0h (InT.keys t) k) c'))=Z0c (d+1) t:=by show NodeD.mk false _ [] _=NodeD.mk false _ [] _;rw[Z5v hc h.at_]
  rw[e1];exact hon.1.stp h.stp (n1 c hcm).1 (by simp) (fun q=>(n1 c hcm).1 (hG _ q))
 ·rcases hk2 e he with rfl | ⟨j,hj',hne⟩
  ·exact h.on
  ·have hem:=List.mem_of_getElem? hj';exact Z7l h.stp d e (hon.2 e hem) (fun b q'=>⟨n2 _ _ _ _ hj' hc hne b q',by simp,fun r=>n2 _ _ _ _ hj' hc hne b q' (hG b r)⟩)
 ·rcases hk2 e he with rfl | ⟨j,hj',_⟩
  ·exact h.ok
  ·exact k4 e (List.mem_of_getElem? hj')
 ·show((InT.at_ t::((InT.kids t).set _ c').flatMap (Z0a d))++G1).Perm (Z0a (d+1) t);rw[Y3z hc,Z7s (Z0a d) _ hj,List.cons_append,List.perm_cons];generalize ((InT.kids t).take (Z0h (InT.keys t) k)).flatMap (Z0a d)=A at *;generalize ((InT.kids t).drop (Z0h (InT.keys t) k+1)).flatMap (Z0a d)=C at *;refine List.Perm.trans ?_ ((h.pages.append_left A).append_right C);rw[aG,aG,aG,aG];exact(List.perm_append_comm.append_left _).append_left _
 ·obtain⟨a1,a2⟩:=Y7a (t:=t) hok' k;show((InT.kids t).set _ c').flatMap (Z0f d)=Z7w ((InT.kids t).flatMap (Z0f d)) k;rw[Z7s (Z0f d) _ hj,Z6l (Z0f d) (InT.kids t) hj,X1f a1 a2,hce,h.list]
 ·have hx':x∈InT.keys t++((InT.kids t).set _ c').flatMap (allT d):=hx;show x∈InT.keys t++(InT.kids t).flatMap (allT d);rw[List.mem_append,List.mem_flatMap]at hx' ⊢;rcases hx' with q | ⟨e,q1,q2⟩
  ·exact .inl q
  ·rcases Z4t q1 with rfl | q1
   ·exact .inr ⟨c,hcm,h.all x q2⟩
   ·exact .inr ⟨e,q1,q2⟩
 ·have hx':x∈InT.keys t++((InT.kids t).set _ c').flatMap (sepT d):=hx;show x∈InT.keys t++(InT.kids t).flatMap (sepT d);rw[List.mem_append,List.mem_flatMap]at hx' ⊢;rcases hx' with q | ⟨e,q1,q2⟩
  ·exact .inl q
  ·rcases Z4t q1 with rfl | q1
   ·exact .inr ⟨c,hcm,h.sep x q2⟩
   ·exact .inr ⟨e,q1,q2⟩
def hasT:(d:Nat)->TT d->ByteArray->Prop
 | 0,t,k=>hasB (LeafT.keys t) k=true
 | d+1,t,k=>∃c,(InT.kids t)[Z0h (InT.keys t) k]? =some c/\hasT d c k
theorem V8w{t:LeafT}(h:okT 0 t)(k:ByteArray):okT 0 (V4j t k):=by obtain⟨k1,k2,k3,k4⟩:=h;refine⟨k1.sublist (List.eraseIdx_sublist _ _),?_,fun x hx=>k3 x (List.mem_of_mem_eraseIdx hx),fun x hx=>k4 x (List.mem_of_mem_eraseIdx hx)⟩;show((LeafT.vals t).eraseIdx _).length=((LeafT.keys t).eraseIdx _).length;rw[List.length_eraseIdx,List.length_eraseIdx,k2]
theorem Z7a:∀(d:Nat) {S S':StoreD} {t t':TT d} {k:ByteArray},Y2n d S t k S' t'->Fm S->onT S d t->okT d t->hasT d t k->(Z0a d t).Nodup->∃G,LessL d S t (Z7w (Z0f d t) k) S' t' G
 | 0,S,S',t,t',k,h,hf,hon,hok,hh,hnd=>by
   obtain⟨rfl,rfl⟩:=h;have hp:=Z3z 0 t hon;have h1:NodeOk (Z0c 0 (V4j t k)):=V4i k hp.ok rfl;have h2:Z0n (Z0c 0 (V4j t k))<=256:=X1e k hp rfl;refine⟨[],(Z5n hf.full hp.given.1 h1 h2).mono (fun b q=>by rw[q];exact Z0r 0 t),rfl,Z4f hp.given h1 h2,V8w hok k,?_,V4k hok.2.1 hok.1 k hh,fun x hx=>List.mem_of_mem_eraseIdx hx,(fun x hx=>by cases hx)⟩;rw[List.append_nil];exact List.Perm.refl _
 | d+1,S,S',t,t',k,h,hf,hon,hok,hh,hnd=>by obtain⟨c,hc,S1,c',h1,h2⟩:=h;have hcm:c∈InT.kids t:=List.mem_of_getElem? hc;obtain⟨e,he,hh'⟩:=hh;rw[hc]at he;injection he with he;subst he;obtain⟨G1,q⟩:=Z7a d h1 hf (hon.2 c hcm) (hok.2.2.2.1 c hcm) hh' ((Z1c hnd).1 c hcm).2;have u:=X9m hf hon hok hnd hc q;obtain⟨G2,r⟩:=V2t h2 (u.fm hf hon) u.on u.ok (u.nd hnd).1;rw[u.list]at r;exact⟨_,u.trans r hnd⟩
theorem Y0h:∀(d:Nat) (t:TT d),okT d t->∀k,hasT d t k↔∃x∈Z0f d t,x.1=k
 | 0,t,h,k=>by
   have hl:(LeafT.vals t).length=(LeafT.keys t).length:=h.2.1;show hasB (LeafT.keys t) k=true↔∃x∈(LeafT.keys t).zip (LeafT.vals t),x.1=k;rw[Z6k];have h1:((LeafT.keys t).zip (LeafT.vals t)).map (·.1)=LeafT.keys t:=List.map_fst_zip (by omega)
   conv=>lhs;rw[<-h1]
   rw[List.mem_map]
 | d+1,t,h,k=>by
   have hok:=h;obtain⟨k1,k2,k3,k4,k5,k6⟩:=h;have hj:Z0h (InT.keys t) k<(InT.kids t).length:=by have:=Z4o (k:=k) k1;omega
   obtain⟨a1,a2⟩:=Y7a (t:=t) hok k;show(∃c,(InT.kids t)[Z0h (InT.keys t) k]? =some c/\hasT d c k)↔∃x∈(InT.kids t).flatMap (Z0f d),x.1=k;rw[aB hj,Z6l (Z0f d) _ hj];constructor
   ·rintro⟨c,hc,hh⟩;injection hc with hc;subst hc;obtain⟨x,hx,e⟩:=(Y0h d _ (k4 _ (List.getElem_mem hj)) k).1 hh;exact⟨x,List.mem_append_left _ (List.mem_append_right _ hx),e⟩
   ·rintro⟨x,hx,e⟩;refine⟨_,rfl,(Y0h d _ (k4 _ (List.getElem_mem hj)) k).2 ⟨x,?_,e⟩⟩;rcases List.mem_append.1 hx with hx | hx
    ·rcases List.mem_append.1 hx with hx | hx
     ·have:=a1 x hx;rw[e,Z1h]at this;cases this
     ·exact hx
    ·have:=a2 x hx;rw[e,Z1h]at this;cases this
structure Frm (P:Nat->Prop) (F G:List Nat) (S S':StoreD):Prop where
 head:S'.head=S.head
 view:∀b,2<=b->¬P b->b∉F->Z1a S' b=Z1a S b
 used:∀b,Z0y S' b=true↔(Z0y S b=true\/b∈F)/\b∉G
section
variable {P:Nat->Prop} {F G:List Nat} {S S':StoreD}
theorem PageN.frm{a:Nat}{n:NodeD}(hp:PageN S a n)(h:Frm P F G S S')(h1:¬P a)(h2:a∉F)(h3:a∉G):PageN S' a n:=
 ⟨⟨hp.given.1,by rw[h.head];exact hp.given.2.1,(h.used a).2 ⟨.inl hp.given.2.2,h3⟩⟩,hp.ok,hp.fits,by rw[h.view a hp.given.1 h1 h2];exact hp.view⟩
theorem Y4h(h:Frm P F G S S'):∀(d:Nat) (t:TT d),onT S d t->(∀b∈Z0a d t,¬P b/\b∉F/\b∉G)->onT S' d t
 | 0,t,ho,hb=>by
   have:=hb (LeafT.at_ t) (by simp[Z0a]);exact PageN.frm ho h this.1 this.2.1 this.2.2
 | d+1,t,ho,hb=>by have:=hb (InT.at_ t) (by simp[Z0a]);refine⟨PageN.frm ho.1 h this.1 this.2.1 this.2.2,fun c hc=>Y4h h d c (ho.2 c hc) (fun b q=>hb b ?_)⟩;simp only[Z0a,List.mem_cons,List.mem_flatMap];exact .inr ⟨c,hc,q⟩
end
structure Big (i:Nat) (P:Nat->Prop) (F G:List Nat) (S S':StoreD):Prop where
 same:S'= { S with dirty:=S'.dirty}
 full:FullV S'
 root:∀j,j<16->j≠i->Z1w S' j=Z1w S j
 view:∀b,2<=b->¬P b->b∉F->Z1a S' b=Z1a S b
 used:∀b,Z0y S' b=true↔(Z0y S b=true\/b∈F)/\b∉G
 dirt:∀b:Nat,2<=b->S'.dirty (b:Int)≠none->S.dirty (b:Int)≠none\/P b\/b∈F
section
variable {i:Nat} {P P':Nat->Prop} {F G:List Nat} {S S':StoreD}
theorem Big.head(h:Big i P F G S S'):S'.head=S.head:=by rw[h.same]
theorem Big.frm(h:Big i P F G S S'):Frm P F G S S':=⟨h.head,h.view,h.used⟩
theorem Stp.big(h:Stp P F G S S')(i:Nat):Big i P F G S S':=⟨h.same,h.full,fun j _ _=>h.root j,h.view,h.used,h.dirt⟩
theorem Big.mono(h:Big i P F G S S')(hP:∀b,P b->P' b):Big i P' F G S S':=⟨h.same,h.full,h.root,fun b h1 h2 h3=>h.view b h1 (fun q=>h2 (hP b q)) h3,h.used,fun b h1 h2=>(h.dirt b h1 h2).imp_right (Or.imp_left (hP b))⟩
theorem Fm.big(h:Fm S)(k:Big i P F G S S')(hG:∀b∈G,2<=b):Fm S':=
 ⟨k.full,(k.used 0).2 ⟨.inl h.u0,fun q=>by have:=hG _ q;omega⟩,(k.used 1).2 ⟨.inl h.u1,fun q=>by have:=hG _ q;omega⟩,by rw[k.head];exact h.most⟩
theorem Stp.setRoot(h:Stp P F G S S')(hi:i<16){n:Nat}(hn:n<4294967296):Big i P F G S (Z0q S' i n)/\Z1w (Z0q S' i n) i=n:=by
 have hv:(Y3p (Z1a S' 1) i n).size=256:=Y1e (h.full 1) hi n;refine⟨⟨by rw[h.same];rfl,Y2w h.full 1 (by rw[hv];decide),fun j hj hne=> ?_,fun b h1 h2 h3=> ?_,fun b=> ?_,fun b h1 h2=> ?_⟩,?_⟩
 ·rw[X4e h.full hi hj hn,if_neg hne,h.root]
 ·rw[Y7g _ _ _ _ (by omega)];exact h.view b h1 h2 h3
 ·rw[Y7h];exact h.used b
 ·refine h.dirt b h1 (fun q=>h2 ?_);show updI S'.dirty 1 _ b=none;unfold updI;rw[if_neg (by omega)];exact q
 ·rw[X4e h.full hi hi hn,if_pos rfl]
end
theorem Big.trans{i:Nat}{P P' Q:Nat->Prop}{F F' G G':List Nat}{S S' S'':StoreD}(h:Big i P F G S S')(k:Big i P' F' G' S' S'')(hG:∀b,b∈F'->b∉G)(hP:∀b,P' b->P b\/b∈F\/Q b):Big i (fun b=>P b\/Q b) (F++F') (G++G') S S'':=by
 refine⟨by rw[k.same,h.same],k.full,fun j hj hne=>(k.root j hj hne).trans (h.root j hj hne),fun b h1 h2 h3=> ?_,fun b=> ?_,fun b h1 h2=> ?_⟩
 ·rw[List.mem_append,not_or]at h3;refine(k.view b h1 (fun q=> ?_) h3.2).trans (h.view b h1 (fun q=>h2 (.inl q)) h3.1);rcases hP b q with q | q | q
  ·exact h2 (.inl q)
  ·exact h3.1 q
  ·exact h2 (.inr q)
 ·rw[k.used,h.used,List.mem_append,List.mem_append];have:=hG b;constructor
  ·rintro⟨⟨q1,q2⟩ | q1,q3⟩
   ·exact⟨q1.imp_right Or.inl,fun q=>q.elim q2 q3⟩
   ·exact⟨.inr (.inr q1),fun q=>q.elim (this q1) q3⟩
  ·rintro⟨q1,q2⟩;rw[not_or]at q2;rcases q1 with q1 | q1 | q1
   ·exact⟨.inl ⟨.inl q1,q2.1⟩,q2.2⟩
   ·exact⟨.inl ⟨.inr q1,q2.1⟩,q2.2⟩
   ·exact⟨.inr q1,q2.2⟩
 ·rw[List.mem_append];rcases k.dirt b h1 h2 with q | q | q
  ·rcases h.dirt b h1 q with r | r | r
   ·exact .inl r
   ·exact .inr (.inl (.inl r))
   ·exact .inr (.inr (.inl r))
  ·rcases hP b q with q | q | q
   ·exact .inr (.inl (.inl q))
   ·exact .inr (.inr (.inl q))
   ·exact .inr (.inl (.inr q))
  ·exact .inr (.inr (.inr q))
inductive TrD where
 | no
 | yes (d:Nat) (t:TT d)
def TrD.list:TrD->List KV
 | .no=> []
 | .yes d t=>Z0f d t
def TrD.pages:TrD->List Nat
 | .no=> []
 | .yes d t=>Z0a d t
def TrD.need:TrD->Nat
 | .no=>1
 | .yes d _=>d+2
def TrD.fine:TrD->Prop
 | .no=>True
 | .yes d _=>d<31
def TrS(S:StoreD)(i:Nat):TrD->Prop
 | .no=>Z1w S i=0
 | .yes d t=>Z1w S i=atT d t/\onT S d t/\okT d t/\(Z0a d t).Nodup
theorem TrS.given{S:StoreD}{i:Nat}:∀ {T:TrD},TrS S i T->∀b∈T.pages,Z0s S b
 | .no,_,b,hb=>by cases hb
 | .yes d t,h,b,hb=>Z0l d t h.2.1 b hb
theorem TrS.nd{S:StoreD}{i:Nat}:∀ {T:TrD},TrS S i T->T.pages.Nodup
 | .no,_=>List.nodup_nil
 | .yes _ _,h=>h.2.2.2
theorem TrS.rise{S:StoreD}{i:Nat}:∀ {T:TrD},TrS S i T->Z6w T.list
 | .no,_=>List.Pairwise.nil
 | .yes d t,h=>Z4u d t h.2.2.1
theorem TrS.keys{S:StoreD}{i:Nat}:∀ {T:TrD},TrS S i T->∀x∈T.list,Z2o x.1/\x.2.size<=80
 | .no,_,x,hx=>by cases hx
 | .yes d t,h,x,hx=>⟨Y8z d t h.2.2.1 _ (Z5a d t x hx),X0t d t h.2.2.1 x hx⟩
theorem TrS.other{i j:Nat}{P:Nat->Prop}{F G:List Nat}{S S':StoreD}(hb:Big i P F G S S')(hj:j<16)(hne:j≠i):∀ {T:TrD},TrS S j T->(∀b∈T.pages,¬P b/\b∉F/\b∉G)->TrS S' j T
 | .no,h,_=>by show Z1w S' j=0;rw[hb.root j hj hne];exact h
 | .yes d t,h,hp=>⟨by rw[hb.root j hj hne];exact h.1,Y4h hb.frm d t h.2.1 hp,h.2.2⟩
def Y0r(S:StoreD)(i:Nat)(k v:ByteArray)(S':StoreD)(T':TrD):TrD->Prop
 | .no=>∃a,lowS S=some a/\S'=Z0q (layP (Z1f S a) a (Z5b k v)) i a/\T'= .yes 0 (LeafT.mk a [k] [v])
 | .yes d t=>∃S1 t' o,PutR d S t k v S1 t' o/\match o with
   | none=>S'=S1/\T'= .yes d t'
   | some x=>∃top,lowS S1=some top/\S'=Z0q (layP (Z1f S1 top) top ⟨false,[x.1],[],[(atT d t':Int),(atT d x.2:Int)]⟩) i top/\T'= .yes (d+1) (InT.mk top [x.1] [t',x.2])
structure PutTL (S:StoreD) (i:Nat) (T:TrD) (k v:ByteArray) (S':StoreD) (T':TrD) (F:List Nat):Prop where
 big:Big i (fun b=>b∈T.pages) F [] S S'
 nd:F.Nodup
 fresh:∀b∈F,Z0y S b=false/\2<=b/\b<S.head.pages
 len:F.length<=T.need
 tr:TrS S' i T'
 pages:T'.pages.Perm (T.pages++F)
 list:T'.list=Z6u T.list k v
theorem Z9x{S S':StoreD}{i:Nat}{k v:ByteArray}{T T':TrD}(hi:i<16)(h:Y0r S i k v S' T' T)(hf:Fm S)(ht:TrS S i T)(hk:Z2o k)(hv:v.size<=80):∃F,PutTL S i T k v S' T' F:=by
 have hm:=hf.most;cases T with
 | no=>
   obtain⟨a,ha,rfl,rfl⟩:=h;obtain⟨r1,r2,r3⟩:=Z4z ha;have hk2:=hk.2;have hnk:NodeOk (Z5b k v):=⟨fun x hx=>by simp[Z5b]at hx;subst hx;omega,fun x hx=>by simp[Z5b]at hx;subst hx;omega,fun c hc=>by simp[Z5b]at hc,by simp[Z5b],fun _=>⟨rfl,rfl⟩,fun q=>by cases q⟩;have hsz:Z0n (Z5b k v)<=256:=by simp[Z0n,Z5b,Z0o];omega
   have t1:=Z7b hf.full r1 (by omega:a<2048);have g1:Z0s (Z1f S a) a:=t1.givenF r1 r2 (by simp) (by simp);have t2:=Z5n t1.full r1 hnk hsz;have p2:=Z4f g1 hnk hsz;have t12:=t1.trans (Q:=fun _=>False) t2 (fun b q=>by cases q) (fun b q=> .inr (.inl (by subst q;simp)));obtain⟨t3,hr3⟩:=Stp.setRoot (i:=i) (n:=a) t12 hi (by omega);have hp:PageN (Z0q (layP (Z1f S a) a (Z5b k v)) i a) a (Z5b k v):=
    ⟨⟨r1,r2,by rw[Y7h];exact p2.given.2.2⟩,p2.ok,p2.fits,by rw[Y7g _ _ _ _ (by omega)];exact p2.view⟩
   refine⟨[a],⟨?_,by simp,fun b q=> ?_,by simp[TrD.need],⟨hr3,hp,⟨List.pairwise_singleton _ _,rfl,fun x hx=> ?_,fun x hx=> ?_⟩,by simp[Z0a]⟩,List.Perm.refl _,?_⟩⟩
   ·have:=t3.mono (P':=fun b=>b∈TrD.pages .no) (fun b q=>(q.elim id id).elim);simpa using this
   ·simp only[List.mem_singleton]at q;subst q;exact⟨r3,r1,r2⟩
   ·simp only[List.mem_singleton]at hx;subst hx;exact hk
   ·simp only[List.mem_singleton]at hx;subst hx;exact hv
   ·rfl
 | yes d t=>
   obtain⟨hr,hon,hok,hnd⟩:=ht;obtain⟨S1,t',o,h1,h2⟩:=h;obtain⟨F,q⟩:=Z5i d h1 hf hon hok hk hv hnd;have hun:∀b,Z0y S b=true->b∉F:=fun b hb r=>by rw[(q.fresh b r).1]at hb;cases hb
   have hnd':(Z0a d t'++Z8v d o).Nodup:=by refine q.pages.nodup_iff.2 ?_;rw[List.nodup_append];exact⟨hnd,q.nd,fun a ha b hb e=>by subst e;exact hun a (Z0l d t hon a ha).2.2 hb⟩
   cases o with
   | none=>
     obtain⟨rfl,rfl⟩:=h2;have e1:Z8v d none= []:=rfl;have e2:X7s d none= []:=rfl;refine⟨F,⟨q.stp.big i,q.nd,q.fresh,Nat.le_succ_of_le q.len,⟨by rw[q.stp.root,q.at_];exact hr,q.on,q.ok,by rw[e1,List.append_nil]at hnd';exact hnd'⟩,?_,?_⟩⟩
     ·have:=q.pages;rwa [e1,List.append_nil]at this
     ·have:=q.list;rwa [e2,List.append_nil]at this
   | some x=>
     obtain⟨mid,r⟩:=x;obtain⟨top,htop,rfl,rfl⟩:=h2;have hR:=q.right mid r rfl;have hf1:=hf.stp q.stp (fun b q=>by cases q);obtain⟨r1,r2,r3⟩:=Z4z htop;have hm1:=hf1.most;have hmk:Z2o mid:=Y8l hok hk mid hR.key;have hmk2:=hmk.2;have ga:=Z0l d t' q.on _ (Z0r d t');have gr:=Z0l d r hR.on _ (Z0r d r);have hnk:NodeOk ⟨false,[mid],[],[(atT d t':Int),(atT d r:Int)]⟩:=by
      refine⟨fun x hx=> ?_,fun x hx=>by simp at hx,fun c hc=> ?_,by simp,(fun q=>by cases q),fun _=>⟨rfl,rfl⟩⟩
      ·simp only[List.mem_singleton]at hx;subst hx;omega
      ·have:=ga.2.1;have:=gr.2.1;simp only[List.mem_cons,List.not_mem_nil,or_false]at hc;rcases hc with rfl | rfl<;>exact⟨by omega,by omega⟩
     have hsz:Z0n ⟨false,[mid],[],[(atT d t':Int),(atT d r:Int)]⟩<=256:=by simp[Z0n,Z0o];omega
     have t1:=Z7b hf1.full r1 (by omega:top<2048);have g1:Z0s (Z1f S1 top) top:=t1.givenF r1 r2 (by simp) (by simp);have t2:=Z5n t1.full r1 hnk hsz;have p2:=Z4f g1 hnk hsz;have t12:=t1.trans (Q:=fun _=>False) t2 (fun b q=>by cases q) (fun b q=> .inr (.inl (by subst q;simp)));obtain⟨t3,hr3⟩:=Stp.setRoot (i:=i) (n:=top) t12 hi (by omega);have tA:=(q.stp.big i).trans (Q:=fun _=>False) t3 (fun b _=>by simp) (fun b r=> .inr (.inr ((r.elim id id))));have hkid:∀c,onT S1 d c->onT (Z0q (layP (Z1f S1 top) top ⟨false,[mid],[],[(atT d t':Int),(atT d r:Int)]⟩) i top) d c:=fun c hc=>
      Y4h t3.frm d c hc (fun b hb=>by
       have hu:=(Z0l d c hc b hb).2.2;refine⟨fun r=>(r.elim id id).elim,?_,by simp⟩;simp only[List.append_nil,List.mem_singleton];intro e;subst e;rw[r3]at hu;cases hu)
     have hp:PageN (Z0q (layP (Z1f S1 top) top ⟨false,[mid],[],[(atT d t':Int),(atT d r:Int)]⟩) i top) top ⟨false,[mid],[],[(atT d t':Int),(atT d r:Int)]⟩:=
      ⟨⟨r1,r2,by rw[Y7h];exact p2.given.2.2⟩,p2.ok,p2.fits,by rw[Y7g _ _ _ _ (by omega)];exact p2.view⟩
     have htf:Z0y S top=false/\top∉F:=by
      have:=q.stp.used top;constructor
      ·cases e:Z0y S top with
       | false=>rfl
       | true=>rw[this.2 ⟨.inl e,by simp⟩]at r3;cases r3
      ·intro e;rw[this.2 ⟨.inr e,by simp⟩]at r3;cases r3
     have hflat:(([t',r]:List (TT d)).flatMap (Z0a d))=Z0a d t'++Z0a d r:=by simp
     have hpo:Z8v d (some (mid,r))=Z0a d r:=rfl;rw[hpo]at hnd';refine⟨F++ [top],⟨?_,?_,fun b hb=> ?_,?_,⟨hr3,⟨hp,fun c hc=> ?_⟩,⟨List.pairwise_singleton _ _,rfl,fun x hx=> ?_,fun c hc=> ?_,Z2f.2 (fun j c hc x hx i' s hs=> ?_),fun j c hc x hx i' s hs hij=> ?_⟩,?_⟩,?_,?_⟩⟩
     ·have:=tA.mono (P':=fun b=>b∈TrD.pages (.yes d t)) (fun b r=>r.elim id False.elim);simpa using this
     ·rw[List.nodup_append];exact⟨q.nd,by simp,fun a ha b hb e=>by simp only[List.mem_singleton]at hb;subst hb;subst e;exact htf.2 ha⟩
     ·rcases List.mem_append.1 hb with hb | hb
      ·exact q.fresh b hb
      ·simp only[List.mem_singleton]at hb;subst hb;rw[q.stp.head]at r2;exact⟨htf.1,r1,r2⟩
     ·rw[aA];have:=q.len;simp only[aK,TrD.need];omega
     ·simp only[List.mem_cons,List.not_mem_nil,or_false]at hc;rcases hc with rfl | rfl
      ·exact hkid _ q.on
      ·exact hkid _ hR.on
     ·simp only[List.mem_singleton]at hx;subst hx;exact hmk
     ·simp only[List.mem_cons,List.not_mem_nil,or_false]at hc;rcases hc with rfl | rfl
      ·exact q.ok
      ·exact hR.ok
     ·match i',hs with
      | 0,hs=>
        injection hs with hs;subst hs
        match j,hc with
        | 0,hc=>injection hc with hc;subst hc;exact⟨fun q=>by omega,fun _=>hR.below x hx⟩
        | 1,hc=>injection hc with hc;subst hc;exact⟨fun _=>hR.above x hx,fun q=>by omega⟩
     ·match i',hs with
      | 0,hs=>
        injection hs with hs;subst hs
        match j,hc with
        | 0,hc=>omega
        | 1,hc=>injection hc with hc;subst hc;exact hR.sabove x hx
     ·show(top::([t',r]:List (TT d)).flatMap (Z0a d)).Nodup;rw[hflat,List.nodup_cons];refine⟨fun hb=> ?_,hnd'⟩;have hu:Z0y S1 top=true:=by
       rcases List.mem_append.1 hb with hb | hb
       ·exact(Z0l d t' q.on _ hb).2.2
       ·exact(Z0l d r hR.on _ hb).2.2
      rw[r3]at hu;cases hu
     ·show(top::([t',r]:List (TT d)).flatMap (Z0a d)).Perm (Z0a d t++(F++ [top]));rw[hflat,<-aG];exact(List.Perm.cons top q.pages).trans (List.perm_append_singleton _ _).symm
     ·show([t',r]:List (TT d)).flatMap (Z0f d)=Z6u (Z0f d t) k v;rw[<-q.list];simp[X7s]
def getV:Option ByteArray->Value
 | some v=> .tuple #[.string v,.int .i64 0]
 | none=> .tuple #[.string ⟨#[]⟩,.int .i64 6]
theorem Y6p{l:List KV}{k:ByteArray}(h:∀x∈l,x.1≠k):Y1v l k=none:=by unfold Y1v;rw[List.find?_eq_none.2 (fun x hx=>by rw[Z2i (h x hx)];decide)];rfl
theorem Y1u{l:List KV}{k v:ByteArray}(hr:Z6w l)(h:(k,v)∈l):Y1v l k=some v:=by
 obtain⟨i,hi,he⟩:=List.mem_iff_getElem.1 h;have hp:=List.pairwise_iff_getElem.1 hr;unfold Y1v;have:l.find? (fun x=>eqB x.1 k)=some (k,v):=by rw[List.find?_eq_some_iff_getElem];refine⟨(Z7u k k).2 rfl,i,hi,he,fun j hj=> ?_⟩;have h1:=hp j i (by omega) hi hj;rw[he]at h1;rw[Z2i (Z2l h1)];rfl
 rw[this];rfl
theorem V3i(t:LeafT)(h:okT 0 t)(k:ByteArray):getN (Z0c 0 t) k=getV (Y1v (Z0f 0 t) k):=by
 have hl:(LeafT.vals t).length=(LeafT.keys t).length:=h.2.1;unfold getN;cases hh:hasB (Z0c 0 t).keys k with
 | true=>
   obtain⟨hp,he⟩:=Z5j (l:=LeafT.keys t) h.1 hh;have hv:posB (LeafT.keys t) k<(LeafT.vals t).length:=by omega
   rw[if_pos rfl];have hm:(k,(LeafT.vals t)[posB (LeafT.keys t) k])∈Z0f 0 t:=by
    show _∈(LeafT.keys t).zip (LeafT.vals t);have hz:posB (LeafT.keys t) k<((LeafT.keys t).zip (LeafT.vals t)).length:=by rw[List.length_zip];omega
    have:=List.getElem_mem hz;rw[List.getElem_zip,he]at this;exact this
   rw[Y1u (Z4u 0 t h) hm];show Value.tuple #[.string ((LeafT.vals t)[posB (LeafT.keys t) k]?.getD ⟨#[]⟩),.int .i64 0]=_;rw[aB hv];rfl
 | false=>
   rw[if_neg (by decide),Y6p (fun x hx e=> ?_)]
   ·rfl
   ·have h1:=Z5a 0 t x hx;rw[e]at h1;have h2:=(Z6k (LeafT.keys t) k).2 h1;have hh':hasB (LeafT.keys t) k=false:=hh;rw[h2]at hh';cases hh'
theorem V1c{S:StoreD}(k:ByteArray):∀(d:Nat) (t:TT d),onT S d t->okT d t->∃n,V9m S k d (atT d t) n/\getN n k=getV (Y1v (Z0f d t) k)
 | 0,t,h,hok=>⟨Z0c 0 t,⟨h,rfl,hok.1⟩,V3i t hok k⟩
 | d+1,t,h,hok=>by
   have hj:Z0h (InT.keys t) k<(InT.kids t).length:=by have:=Z4o (k:=k) hok.1;have:=hok.2.1;omega
   obtain⟨n,h1,h2⟩:=V1c k d _ (h.2 _ (List.getElem_mem hj)) (hok.2.2.2.1 _ (List.getElem_mem hj));refine⟨n,⟨Z0c (d+1) t,h.1,rfl,hok.1,?_⟩,?_⟩
   ·have e:((Z0c (d+1) t).kids[Z0h (Z0c (d+1) t).keys k]?.getD 0)=(atT d (InT.kids t)[Z0h (InT.keys t) k]:Int):=by show(((InT.kids t).map fun c=>(atT d c:Int))[Z0h (InT.keys t) k]?).getD 0=_;rw[List.getElem?_map,aB hj];rfl
    rw[e,Int.toNat_natCast];exact h1
   ·obtain⟨a1,a2⟩:=Y7a (t:=t) hok k;rw[h2]
    congr 1
    show _=Y1v ((InT.kids t).flatMap (Z0f d)) k;rw[Z6l (Z0f d) (InT.kids t) hj,V3l a1 a2]
theorem X3x{tr p i:Nat}{F:Nat->Prop}{S:StoreD}(T:TrD)(k:ByteArray)(w:World)(ht:Z0b w tr p i)(hnt:¬F tr)(h:PagerAt w p F S)(hi:i<16)(hT:TrS S i T)(hd:T.fine):
  cQ 77 #[tp tr,.string k] w fun e w'=>e= .returned (getV (Y1v T.list k))/\∃F',PagerAt w' p F' S/\Keeps F F' w w':=by
 cases T with
 | no=>exact V8e k w ht hnt h hi hT
 | yes d t=>
   obtain⟨hr,hon,hok,hnd⟩:=hT;obtain⟨n,h1,h2⟩:=V1c k d t hon hok;have hd':d<31:=hd;have:=U1j (atT d t) d k n w ht hnt h hi hr (by have:=(Z0l d t hon _ (Z0r d t)).1;omega) h1 (by omega);rw[h2]at this;exact this
def pgN(n room:Nat):Nat:=min (n-2-room) 1024
def Z5c(n room:Nat):HeadD:=⟨2,0,room,pgN n room⟩
def Y6q(n room:Nat):StoreD:=⟨fmtD n room (pgN n room),Z5c n room,X0m,false⟩
theorem V1g(h:HeadD):padB (Z5z h)=bts (Z1g h++notL (Z1g h)++List.replicate 216 0):=by rw[<-Y2u (Z5z h) 216 (by rw[Z8n]) (by rw[Z8n];omega)];unfold Z5z;rw[ByteArray.ext_iff,ByteArray.data_append];simp[bts]
theorem X8g(n room pages:Nat)(hn:2<=n):Z0x (fmtD n room pages) 0=padB (Z5z ⟨2,0,room,pages⟩):=by unfold Z0x fmtD Z2z;simp[List.getElem?_set,show 0<n from by omega]
theorem Y6t(n room pages:Nat)(hn:2<=n):Z0x (fmtD n room pages) 1=zeroB:=by unfold Z0x fmtD Z2z;simp[List.getElem?_set,show 1<n from by omega]
theorem V3q(n room pages:Nat):(fmtD n room pages).blocks.length=n:=by simp[fmtD]
theorem X4n:Z4l zeroB=(zeroH,false):=by
 have h:=X7d;unfold Z4l at h ⊢;split at h
 ·simp at h
 ·rename_i hc
  rw[if_neg hc];rfl
theorem X5k{n room:Nat}(hr1:1<=room)(hr2:room+3<=n)(hn:n<=2048):HeadOk (Z5c n room):=⟨by simp[Z5c],by simp[Z5c],by dsimp only[Z5c,pgN];omega,by dsimp only[Z5c,pgN];omega⟩
theorem Y4r{n room:Nat}(hr1:1<=room)(hr2:room+3<=n)(hn:n<=2048):Z4l (Z0x (fmtD n room (pgN n room)) 0)=(Z5c n room,true):=by rw[X8g _ _ _ (by omega),V1g];exact X7e (Z5c n room) (X5k hr1 hr2 hn) _
theorem X8d{n room:Nat}(hr1:1<=room)(hr2:room+3<=n)(hn:n<=2048)(i:Nat)(hi:i<2):X6d (fmtD n room (pgN n room)).blocks.length (Z0x (fmtD n room (pgN n room)) i):=by
 rw[V3q];rcases(show i=0\/i=1 from by omega)with rfl | rfl
 ·exact .inr ⟨_,Y4r hr1 hr2 hn,⟨X5k hr1 hr2 hn,hr1,by dsimp only[Z5c,pgN];omega,by dsimp only[Z5c,pgN];omega,Nat.zero_le _,by dsimp only[Z5c,pgN];omega⟩⟩
 ·exact .inl (by rw[Y6t _ _ _ (by omega)];exact X4n)
theorem X0z{n room:Nat}(hr1:1<=room)(hr2:room+3<=n)(hn:n<=2048):Y1o (fmtD n room (pgN n room))=(Z5c n room,true):=by
 have h1:Z4l (Z0x (fmtD n room (pgN n room)) 1)=(zeroH,false):=by rw[Y6t _ _ _ (by omega)];exact X4n
 have h0:=Y4r hr1 hr2 hn;unfold Y1o Z3u Z3u Z3u;rw[h1,h0];rw[if_neg (by simp),if_pos ⟨rfl,by simp[zeroH,Z5c],by simp[Z5c]⟩]
def Z1j(n room:Nat):StoreD:=fmtP (Y6q n room)
theorem X7c(n room:Nat):Live (Y6q n room):=⟨rfl,rfl⟩
theorem X4l(n room i:Nat):TrS (Z1j n room) i .no:=V5z _ i
theorem X4m{n room:Nat}(hf:FullV (Z1j n room)):Fm (Z1j n room):=⟨hf,by unfold Z1j;rw[Z9o];rfl,by unfold Z1j;rw[Z9o];rfl,Nat.min_le_right _ _⟩
theorem Y9p(S:StoreD):∀n,Z1y (fmtP S) n=min n 2
 | 0=>rfl
 | n+1=>by
   rw[Y3k,Y9p S n,Z9o];by_cases h:n<2
   ·rw[if_pos (decide_eq_true h)];omega
   ·rw[if_neg (by simp;omega)];omega
theorem Y1f(n room:Nat):Z0z (Z1j n room)=pgN n room-2:=by unfold Z0z Z1j;rw[Y9p];show pgN n room-min (pgN n room) 2=_;omega
def keyL(l:List Int):List UInt8:=l.flatMap ordL
theorem Z2r(l:List Int):(keyL l).length=8*l.length:=by
 induction l with
 | nil=>rfl
 | cons a r ih=>rw[keyL,aI,aA,<-keyL,ih,Z1k,List.length_cons];omega
def OfR(l:List Int):Value:=if 4<l.length then .tuple #[.string ⟨#[]⟩,.int .i64 22]else .tuple #[.string (bts (keyL l)),.int .i64 0]
theorem V9p{A:Option Addr}{n c:Nat}(l:List Int)(w:World)(h:Sl w 1 (fun x cs=>cs=encN x) (.slice A n c) l)(hl:∀x∈l,-9223372036854775808<=x/\x<=9223372036854775807)(hn:n<=1000000000000000000):
  cQ 44 #[.slice A n c] w fun e w'=>e= .returned (OfR l)/\Ext w w':=by
 obtain⟨hnl,hc1,hc2,hx⟩:=h.at;have HR:Hid (OfR l=if 4<l.length then .tuple #[.string ⟨#[]⟩,.int .i64 22]else .tuple #[.string (bts (keyL l)),.int .i64 0]):=rfl;have HNL:=hD hnl;have HX:=hD hx;have HL:=hD hl;have hw8:IntKind.i64.wrap (8*(n:Int))=8*(n:Int):=by rw[IntKind.wrap_i64];omega
 clear h hnl hx hl;by_cases h4:4<n
 ·have T1:decide ((32:Int)<8*(n:Int))=true:=aN;go_enter Tryz.func44,Tryz.ntmps44;go_wp2_with fail
  go_ret2
  rw[HR.out,if_pos (by have:=HNL.out;omega)];exact⟨rfl,Ext.refl w⟩
 ·have T1:decide ((32:Int)<8*(n:Int))=false:=aM;go_enter Tryz.func44,Tryz.ntmps44;go_wp2_with fail
  go_loopw [4,13] (fun s x wr=>∃(k:Nat) (s9:ByteArray),k<=n/\x= .int .i64 k/\s= .string s9/\s9.size<=1000/\Hid (s9=bts (keyL (l.take k)))/\Ext w wr) (fun _ x _=>n-(intOf x).toNat)
  case atStart=>exact⟨0,⟨#[]⟩,by omega,rfl,rfl,by decide,rfl,Ext.refl w⟩
  case round=>
   obtain⟨k,s9,hk,rfl,rfl,hsz,hs9,hxr⟩:=hrel;have HXR:=hD hxr;clear hxr;by_cases hkn:k<n
   ·have q1:decide ((k:Int)<n)=true:=aN;have q2:(k:Int)<n:=by omega
    obtain⟨b,off,rfl,hb,hcell⟩:=HX.out (by have:=HNL.out;omega);obtain⟨cs,rfl,_,hcs⟩:=hcell k (by have:=HNL.out;omega);obtain⟨x,hx⟩:∃x,l[k]? =some x:=⟨_,aB (by have:=HNL.out;omega)⟩;have hxe:l[k]'(by have:=HNL.out;omega)=x:=by rw[aB (by have:=HNL.out;omega)]at hx;injection hx
    rw[hxe]at hcs;have z0:wr.cell? ⟨b,off+k,none⟩=some (.int .i64 x):=(HXR.out.cell (p:=⟨b,off+k,none⟩) hb).trans (by have:=hcs 0 _ rfl;simpa using this);have hxl:=HL.out x (List.mem_of_getElem? hx);have cO:=X2k x wr hxl.1 hxl.2;have hw1:IntKind.i64.wrap ((k:Int)+1)=(k:Int)+1:=by rw[IntKind.wrap_i64];omega
    have HS1:Hid (s9++bts (ordL x)=bts (keyL (l.take (k+1)))):=by unfold Hid;rw[hs9.out,Z7y,List.take_add_one,hx,keyL,keyL,aH];simp
    have hbz:(bts (ordL x)).size=8:=by rw[Z0e,Z1k]
    have HSZ:Hid ((s9++bts (ordL x)).size<=1000):=by rw[HS1.out,Z0e,Z2r,aD];show 8*(min (k+1) l.length)<=1000;omega
    generalize bts (ordL x)=bx at *;have hsum:¬9223372036854775807<s9.size+bx.size:=by omega
    clear hcell hcs hx hxe hxl;go_wp2_with (go_at_call 105;(with_reducible refine cO.mono ?_);clear cO;rintro e w2 ⟨rfl,hb2⟩;have HB2:=hD hb2;clear hb2)
    go_roundw
    case rel=>exact⟨k+1,s9++bx,by omega,by go_num,rfl,HSZ.out,HS1,Ext.trans HXR.out HB2.out⟩
    case measure=>simp only[intOf];omega
   ·obtain rfl:k=n:=by omega
    go_wp2_with fail
    go_ret2
    refine⟨?_,HXR.out⟩;rw[HR.out,if_neg (by have:=HNL.out;omega),hs9.out,HNL.out,List.take_length];rfl
theorem V0d(l:List Int)(w:World)(hl:∀x∈l,-9223372036854775808<=x/\x<=9223372036854775807)(hn:l.length<=4):
  cQ 54 #[.string (bts (keyL l))] w fun e w'=>∃v,e= .returned (.tuple #[v,.int .i64 0])/\OwnL w' w.heap.size 3 1 encN v l/\Ext w w':=by
 have HL:=hD hl;obtain⟨s,hs⟩:∃s,bts (keyL l)=s:=⟨_,rfl⟩;have hsz:s.size=8*l.length:=by rw[<-hs,Z0e,Z2r]
 have T1:(s.size:Int)%8=0:=by omega
 have T1b:((s.size:Int)%8 !=0)=false:=by simp;omega
 have T2:decide ((32:Int)<(s.size:Int))=false:=aM;have HS:=hD hs;have HN:=hD hn;rw[hs];clear hl hs hsz hn;go_enter Tryz.func54,Tryz.ntmps54;go_wp2_with fail;clear T1 T1b
 go_loopw [0,4] (fun x v wr=>∃(k:Nat) (s9:ByteArray),k<=l.length/\x= .string s9/\Hid (s9.size=8*(l.length-k))/\Hid (s9=bts (keyL (l.drop k)))/\OwnL wr w.heap.size 3 1 encN v (l.take k)/\Ext w wr) (fun x _ _=>match x with | .string s=>s.size | _=>0)
 case atStart=>exact⟨0,s,by omega,rfl,hD (by rw[<-HS.out,Z0e,Z2r];rfl),HS.out.symm,OwnL.nil _ _ _ _ _,Ext.refl w⟩
 case round=>
  obtain⟨k,s9,hk,rfl,hsz,hs9,ho,hxr⟩:=hrel;obtain⟨T,hT⟩:∃T,l.take k=T:=⟨_,rfl⟩;have hTl:T.length=k:=by rw[<-hT,aD];omega
  rw[hT]at ho;obtain⟨A,c,rfl⟩:=ho.form;rw[hTl]at ho ⊢;have HO:=hD ho;have HT:=hD hT;have HTL:=hD hTl;have HXR:=hD hxr;have hz:=hxr.size;clear hT hTl;clear ho hxr;by_cases hkn:k<l.length
  ·have hne:¬s9.toList= []:=Y9r (by have:=hsz.out;omega);have hke:s9.toList.isEmpty=false:=by cases h9:s9.toList with | nil=>exact absurd h9 hne | cons _ _=>rfl
   obtain⟨x,hx⟩:∃x,l[k]? =some x:=⟨_,aB hkn⟩;have hxl:=HL.out x (List.mem_of_getElem? hx);have hdr:keyL (l.drop k)=ordL x++keyL (l.drop (k+1)):=by obtain⟨h1,h2⟩:=aC.1 hx;rw[List.drop_eq_getElem_cons h1,h2,keyL,aI];rfl
   have e1:s9.extract 0 8=bts (ordL x):=by rw[hs9.out,hdr];exact Z9i [] (ordL x) _ 0 8 rfl (by rw[Z1k])
   have e2:s9.extract 8 s9.size=bts (keyL (l.drop (k+1))):=by rw[hs9.out,hdr];exact Z2k (ordL x) _ 8 _ (Z1k x) (by rw[Z0e,aA,Z1k])
   have cU:=Y7k (bts (ordL x)) (by rw[Z0e,Z1k]) wr;rw[show (bts (ordL x)).data.toList=ordL x by simp[bts],Y9j x hxl.1 hxl.2]at cU;have HTK:Hid (l.take (k+1)=l.take k++ [x]):=by unfold Hid;rw[List.take_add_one,hx];rfl
   have HE2:=hD (show s9.extract 8 s9.size=bts (keyL (l.drop (k+1)))from e2);obtain⟨s8,hs8⟩:∃s8,s9.extract 8 s9.size=s8:=⟨_,rfl⟩;have HS8:Hid (s8=bts (keyL (l.drop (k+1)))):=hs8▸e2;have HZ8:Hid (s8.size=8*(l.length-(k+1))):=by unfold Hid;rw[HS8.out,Z0e,Z2r,aJ]
   rw[hs8]at e2;have h8:8<=s9.size:=by have:=hsz.out;omega
   have h8i:(8:Int)<=s9.size:=by omega
   generalize bts (ordL x)=bx at *;have HTL1:Hid ((T++ [x]).length=k+1):=by unfold Hid;rw[aA,HTL.out];rfl
   have HLT:Hid (T.length<=4):=by have:=HN.out;have:=HTL.out;unfold Hid;omega
   clear hx hdr e2 hxl;go_wp2_with (first
    | (go_at_call 110;(with_reducible refine cU.mono ?_);clear cU;rintro e w2 ⟨rfl,rfl⟩)
    | (at_builtin;refine Z0u elInt Z0j Z2s rfl (.tmp 26) (.tmp 28) rfl (.slice A k c) T rfl (HO.out.ext (by exact Xt)) (by simp;omega) _ 1 x rfl (Row1.made' (by simp) _ (encN x)) (by have:=HLT.out;omega) (by decide) ?_;intro A' c' w2 hown2 hgr hwh;rw[HTL1.out]at hown2 ⊢;have HO2:=hD hown2;have HG2:=hD (OwnL.grown (HO.out.ext (by exact Xt)) (Ext.trans HXR.out (by exact Xt)) hgr (aF _));clear hown2 hgr hwh))
   go_roundw
   case rel=>exact⟨k+1,s8,by omega,rfl,HZ8,HS8,by rw[HTK.out,HT.out];exact HO2.out,HG2.out⟩
   case measure=>show s8.size<s9.size;have:=HZ8.out;have:=hsz.out;omega
  ·obtain rfl:k=l.length:=by omega
   have hs0:s9=⟨#[]⟩:=by apply Y5d;rw[hs9.out,List.drop_length];rfl
   subst hs0;go_wp2_with fail
   go_ret2
   exact⟨_,rfl,by have h9:=HO.out;rw[<-HT.out,List.take_length]at h9;exact h9,HXR.out⟩
theorem Y9m{p i:Nat}{F:Nat->Prop}{S:StoreD}(w:World)(h:PagerAt w p F S)(hi:i<16):
  cQ 28 #[tp p,.int .i64 i] w fun e w'=>∃t F',e= .returned (.tuple #[tp t,.int .i64 0])/\Z0b w' t p i/\PagerAt w' p F' S/\Keeps F F' w w'/\¬F' t/\w.heap.size<=t:=by
 have cR:=Y7x i w h hi;clear h hi;go_enter Tryz.func28,Tryz.ntmps28;go_wp2_with (go_at_call 75;(with_reducible refine cR.mono ?_);clear cR;rintro e w1 ⟨rfl,F1,hp1,hk1⟩;have HP1:=hD hp1.shrink;have HK1:=hD (Keeps.shrink (P:=fun i=>i<w1.heap.size) hk1);clear hp1 hk1)
 go_ret2
 exact⟨w1.heap.size,_,rfl,Row1.made w1 _ _,HP1.out.ext (Ext.alloc _ _),HK1.out.ext (Ext.alloc _ _),fun q=>absurd q.2 (Nat.lt_irrefl _),HK1.out.only.size⟩
def tblC(ts:Nat->Nat)(k:Nat):List Value:=(List.range 5).map fun j=>if j<k then tp (ts j)else .pointer none
theorem Y3j(ts:Nat->Nat)(k j:Nat)(hj:j<5):(tblC ts k)[j]? =some (if j<k then tp (ts j)else .pointer none):=by unfold tblC;rw[List.getElem?_map,List.getElem?_range hj];rfl
theorem V5o(ts:Nat->Nat)(k t:Nat)(hk:k<5):(tblC ts k).set k (tp t)=tblC (fun j=>if j=k then t else ts j) (k+1):=by
 apply List.ext_getElem?;intro j;by_cases hj:j<5
 ·rw[Y3j _ _ _ hj,List.getElem?_set,Y3j _ _ _ hj];have hl:(tblC ts k).length=5:=by simp[tblC]
  by_cases e:k=j
  ·subst e;rw[if_pos rfl,if_pos (by rw[hl];exact hk),if_pos (by omega),if_pos rfl]
  ·rw[if_neg e];by_cases h:j<k
   ·rw[if_pos h,if_pos (by omega),if_neg (by omega)]
   ·rw[if_neg h,if_neg (by omega)]
 ·rw[List.getElem?_eq_none (by simp[tblC];omega),List.getElem?_eq_none (by simp[tblC];omega)]
abbrev X6c(w:World)(tb:Nat)(ts:Nat->Nat):Prop:=Row1 w tb 174 (tblC ts 5)
structure TblAt (w:World) (tb p:Nat) (ts:Nat->Nat) (F:Nat->Prop):Prop where
 row:X6c w tb ts
 tree:∀j,j<5->Z0b w (ts j) p j
 out:¬F tb
 outs:∀j,j<5->¬F (ts j)
structure OpnR (w:World) (p:Nat) (F:Nat->Prop) (S:StoreD) (k:Nat) (wr:World) (ts:Nat->Nat) (F1:Nat->Prop):Prop where
 row:Row1 wr w.heap.size 174 (tblC ts k)
 pag:PagerAt wr p F1 S
 keep:Keeps F F1 w wr
 out:¬F1 w.heap.size
 tree:∀j,j<k->Z0b wr (ts j) p j/\¬F1 (ts j)/\w.heap.size<ts j
theorem Y9o{p:Nat}{F:Nat->Prop}{S:StoreD}(w:World)(h:PagerAt w p F S):
  cQ 65 #[tp p] w fun e w'=>∃tb ts F',e= .returned (.tuple #[tp tb,.int .i64 0])/\TblAt w' tb p ts F'/\PagerAt w' p F' S/\Keeps F F' w w'/\w.heap.size<=tb/\∀j,j<5->w.heap.size<=ts j:=by
 have HP:=hD h.shrink;clear h;go_enter Tryz.func65,Tryz.ntmps65;go_wp2_with fail
 go_loopw [10] (fun i wr=>∃k ts F1,k<=5/\i= .int .i64 (k:Nat)/\OpnR w p F S k wr ts F1) (fun i _=>5-(intOf i).toNat)
 case atStart=>exact⟨0,fun _=>0,_,by omega,rfl,⟨Row1.made' rfl _ (tblC (fun _=>0) 0),HP.out.ext (by exact Xt),(Keeps.of (by exact Xt)).shrink,fun q=>absurd q.2 (Nat.lt_irrefl _),fun j hj=>absurd hj (by omega)⟩⟩
 case round=>
  obtain⟨k,ts,F1,hk,rfl,hr⟩:=hrel;have HR:=hD hr;clear hr;by_cases hkl:k<5
  ·have q1:decide ((k:Int)<5)=true:=aN;have cO:=Y9m (i:=k) wr HR.out.pag (by omega);go_upto_region 8 with (go_at_call 28;(with_reducible refine cO.mono ?_);clear cO;rintro e w1 ⟨t,F2,rfl,ht1,hp1,hk1,hn1,hs1⟩);have hR1:=hk1.only.row HR.out.row HR.out.out;have c0:w1.cell? ⟨w.heap.size,k,none⟩=some (.pointer none):=by rw[hR1.cell k,Y3j _ _ _ hkl,if_neg (by omega)]
   have f0:w1.frozen? ⟨w.heap.size,k,none⟩=false:=hR1.soft k;have hsz:=hk1.only.size;have hgl:=HR.out.row.lt;have HREL:Hid (∀W,W=w1.setCell ⟨w.heap.size,k,none⟩ (tp t)->OpnR w p F S (k+1) W (fun j=>if j=k then t else ts j) (fun i=>F2 i/\i<w1.heap.size)):=by
    rintro W rfl;have hout:¬F2 w.heap.size:=hk1.out hgl HR.out.out;refine⟨?_,hp1.shrink.only (Only.setCell (F:=fun i=>i=w.heap.size) (p:=⟨w.heap.size,k,none⟩) Only.refl (.inl rfl) _) (fun i q e=>hout (e▸q.1)),⟨((HR.out.keep.trans hk1).only.setCell (p:=⟨w.heap.size,k,none⟩) (.inr (aF _)) _),(Keeps.shrink (HR.out.keep.trans hk1)).new⟩,fun q=>hout q.1,fun j hj=> ?_⟩
    ·rw[<-V5o _ _ _ hkl];exact hR1.set k _
    ·by_cases e:j=k
     ·subst e;rw[if_pos rfl];exact⟨ht1.setFar (fun e=>absurd hs1 (by rw[e];exact Nat.not_le.2 hgl)) _,fun q=>hn1 q.1,by omega⟩
     ·rw[if_neg e];have h1:=HR.out.tree j (by omega);have h2:=hk1.only.row h1.1 h1.2.1;exact⟨h2.setFar (fun e=>absurd h1.2.2 (by rw[e];exact Nat.lt_irrefl _)) _,fun q=>hk1.out h1.1.lt h1.2.1 q.1,h1.2.2⟩
   clear ht1 hp1 hk1 hn1;go_wp2_with fail
   go_roundw
   case rel=>exact⟨k+1,_,_,by omega,by go_num,HREL.out _ rfl⟩
   case measure=>simp[intOf];omega
  ·obtain rfl:k=5:=by omega
   go_wp2_with fail
   go_ret2
   have h1:=HR.out;exact⟨_,ts,F1,rfl,⟨h1.row,fun j hj=>(h1.tree j hj).1,h1.out,fun j hj=>(h1.tree j hj).2.1⟩,h1.pag,h1.keep,aF _,fun j hj=>Nat.le_of_lt (h1.tree j hj).2.2⟩
theorem X1y{p:Nat}{F:Nat->Prop}{S:StoreD}(w:World)(h:PagerAt w p F S):
  cQ 65 #[tp p] w fun e w'=>∃tb ts F',e= .returned (.tuple #[tp tb,.int .i64 0])/\TblAt w' tb p ts F'/\PagerAt w' p F' S/\Keeps F F' w w'/\w.heap.size<=tb:=
 (Y9o w h).mono (fun e w' ⟨tb,ts,F',q1,q2,q3,q4,q5,_⟩=>⟨tb,ts,F',q1,q2,q3,q4,q5⟩)
theorem Z2v{tb:Nat}{ts:Nat->Nat}(w:World)(h:X6c w tb ts):cQ 85 #[tp tb] w fun e w'=>e= .returned (.bool true)/\w=w':=by have c0:w.cell? ⟨tb,0,none⟩=some (tp (ts 0)):=h.cell 0;clear h;go_enter Tryz.func85,Tryz.ntmps85;go_wp2_with fail;go_ret;exact⟨rfl,rfl⟩
def endI(o:OpD):Int:=if o.done=true then o.ret else 1099511627777
def wayL(i:Nat)(o:OpD):List Int:=match i with
 | 0=> [o.id]
 | 1=> [o.object,o.invoke,o.id]
 | 2=> [o.object,endI o,o.id]
 | 3=> [o.proc,o.invoke,o.id]
 | _=> [o.method,o.id]
def wayK(i:Nat)(o:OpD):ByteArray:=bts (keyL (wayL i o))
def In64(x:Int):Prop:= -9223372036854775808<=x/\x<=9223372036854775807
theorem Z3w(i:Nat)(o:OpD):1<=(wayL i o).length/\(wayL i o).length<=3:=by unfold wayL;split<;>simp
theorem Z6y(i:Nat)(o:OpD):Z2o (wayK i o):=by unfold Z2o wayK;rw[Z0e,Z2r];have:=Z3w i o;omega
theorem Z5y(l:List Int)(W:World)(h4:l.length<=4)(hl:∀x∈l,In64 x):
  cQ 44 #[.slice (some ⟨W.heap.size,0,none⟩) l.length l.length] (W.alloc (.cells (l.map (fun x=>Value.int .i64 x)).toArray 3)) fun e w'=>e= .returned (.tuple #[.string (bts (keyL l)),.int .i64 0])/\Ext W w':=by
 have hs:Sl (W.alloc (.cells (l.map (fun x=>Value.int .i64 x)).toArray 3)) 1 (fun x cs=>cs=encN x) (.slice (some ⟨W.heap.size,0,none⟩) l.length l.length) l:=by
  refine Sl.laid (Row1.made W 3 _) rfl (aF _) (by unfold maxLen;omega) (fun i x hi=>⟨_,rfl,rfl,fun j u hu=> ?_⟩);cases j with
  | zero=>
    have hu:some (Value.int .i64 x)=some u:=hu;rw[Nat.mul_one,Nat.add_zero,List.getElem?_map,hi];exact hu
  | succ j=>simp[encN]at hu
 refine(V9p l _ hs hl (by omega)).mono ?_;rintro e w' ⟨rfl,hx⟩;refine⟨?_,(Ext.alloc _ _).trans hx⟩;unfold OfR;rw[if_neg (by omega)]
theorem U1k(o:OpD)(w:World):cQ 148 #[o.val] w fun e w'=>e= .returned (.int .i64 (endI o))/\Ext w w':=by
 obtain⟨h0,h1,h2,h3,h4,h5,h6,h7,h8,h9,h10⟩:=At11.row (Row1.made w 73 o.cells);have HE:Hid (endI o=if o.done=true then o.ret else 1099511627777):=rfl;go_enter Tryz.func148,Tryz.ntmps148;cases hd:o.done with
 | true=>
   rw[hd]at h7;go_wp2_with fail;go_ret;exact⟨Y3r (by rw[HE.out,if_pos hd]),by exact Xt⟩
 | false=>
   rw[hd]at h7;go_wp2_with fail;go_ret;exact⟨Y3r (by rw[HE.out,if_neg (by rw[hd];simp)]),by exact Xt⟩
theorem Z5q(i:Nat)(o:OpD)(w:World)(hi:i<5)(hl:∀x∈wayL i o,In64 x):
  cQ 89 #[.int .i64 i,o.val] w fun e w'=>e= .returned (.string (wayK i o))/\Ext w w':=by
 have HBX:Hid (∀W:World,Ext (w.alloc (.cells #[.int .i64 o.id,.int .i64 o.proc,.int .i64 o.object,.int .i64 o.kind,.int .i64 o.method,.int .i64 o.arg,.int .i64 o.second,.bool o.done,.int .i64 o.result,.int .i64 o.invoke,.int .i64 o.ret] 73)) W->At11 W w.heap.size o):=fun W h=>(At11.row (Row1.made w 73 o.cells)).ext h (by simp);obtain⟨h0,h1,h2,h3,h4,h5,h6,h7,h8,h9,h10⟩:=HBX.out _ (Ext.refl _);rcases(show i=0\/i=1\/i=2\/i=3\/i=4 from by omega)with rfl | rfl | rfl | rfl | rfl
 ·have cO:Hid (∀(W:World) (n:Nat),W.heap.size=n->cQ 44 #[.slice (some ⟨n,0,none⟩) 1 1] (W.alloc (.cells #[.int .i64 o.id] 3)) fun e w'=>e= .returned (.tuple #[.string (wayK 0 o),.int .i64 0])/\Ext W w'):=fun W n hn=>by subst hn;exact Z5y [o.id] W (by simp) hl
  generalize hk:wayK 0 o=k at cO;clear hl;go_enter Tryz.func89,Tryz.ntmps89;go_wp2_with (go_at_call 44;(with_reducible refine(cO.out _ _ ?_).mono ?_);(· simp);clear cO;rintro e w1 ⟨rfl,hb1⟩;have HB1:=hD hb1;clear hb1);go_ret;subst hk;exact⟨rfl,(Ext.alloc _ _).trans HB1.out⟩
 ·have cO:Hid (∀(W:World) (n:Nat),W.heap.size=n->cQ 44 #[.slice (some ⟨n,0,none⟩) 3 3] (W.alloc (.cells #[.int .i64 o.object,.int .i64 o.invoke,.int .i64 o.id] 3)) fun e w'=>e= .returned (.tuple #[.string (wayK 1 o),.int .i64 0])/\Ext W w'):=fun W n hn=>by subst hn;exact Z5y [o.object,o.invoke,o.id] W (by simp) hl
  generalize hk:wayK 1 o=k at cO;clear hl;go_enter Tryz.func89,Tryz.ntmps89;go_wp2_with (go_at_call 44;(with_reducible refine(cO.out _ _ ?_).mono ?_);(· simp);clear cO;rintro e w1 ⟨rfl,hb1⟩;have HB1:=hD hb1;clear hb1);go_ret;subst hk;exact⟨rfl,(Ext.alloc _ _).trans HB1.out⟩
 ·have cO:Hid (∀(W:World) (n:Nat),W.heap.size=n->cQ 44 #[.slice (some ⟨n,0,none⟩) 3 3] (W.alloc (.cells #[.int .i64 o.object,.int .i64 (endI o),.int .i64 o.id] 3)) fun e w'=>e= .returned (.tuple #[.string (wayK 2 o),.int .i64 0])/\Ext W w'):=fun W n hn=>by subst hn;exact Z5y [o.object,endI o,o.id] W (by simp) hl
  have cE:Hid (∀W,cQ 148 #[.agg #[.int .i64 o.id,.int .i64 o.proc,.int .i64 o.object,.int .i64 o.kind,.int .i64 o.method,.int .i64 o.arg,.int .i64 o.second,.bool o.done,.int .i64 o.result,.int .i64 o.invoke,.int .i64 o.ret]] W fun e w'=>e= .returned (.int .i64 (endI o))/\Ext W w'):=fun W=>U1k o W;generalize hk:wayK 2 o=k at cO;generalize endI o=en at *;clear hl;go_enter Tryz.func89,Tryz.ntmps89;go_upto_region 8 with fail;generalize hW0:w.alloc _=W0 at *;have HX0:Hid (Ext w W0):=by unfold Hid;rw[<-hW0];exact Ext.alloc _ _
  clear h0 h1 h2 h3 h4 h5 h6 h7 h8 h9 h10 hW0;refine wp_region_held_drew (S:=fun W=>(W.cell? ⟨w.heap.size,0,none⟩=some (.int .i64 o.id)/\W.cell? ⟨w.heap.size,1,none⟩=some (.int .i64 o.proc)/\W.cell? ⟨w.heap.size,2,none⟩=some (.int .i64 o.object)/\W.cell? ⟨w.heap.size,3,none⟩=some (.int .i64 o.kind)/\W.cell? ⟨w.heap.size,4,none⟩=some (.int .i64 o.method)/\W.cell? ⟨w.heap.size,5,none⟩=some (.int .i64 o.arg)/\W.cell? ⟨w.heap.size,6,none⟩=some (.int .i64 o.second)/\W.cell? ⟨w.heap.size,7,none⟩=some (.bool o.done)/\W.cell? ⟨w.heap.size,8,none⟩=some (.int .i64 o.result)/\W.cell? ⟨w.heap.size,9,none⟩=some (.int .i64 o.invoke)/\W.cell? ⟨w.heap.size,10,none⟩=some (.int .i64 o.ret))) (by kernel_rfl) (HBX.out _ (by exact Xt)) (fun hHeld=> ?_);refine' tk 0 ?_;refine' tk 1 ?_;refine' tk 2 ?_;refine' tk 4 ?_;refine' tk 5 ?_;refine stp 3 (fun K hK=> ?_);go_simp
  (with_reducible refine(cE.out _).mono ?_)
  rintro e w1 ⟨rfl,hb1⟩;have HB1:Hid (Ext W0 w1):=Ext.trans (by exact Xt) hb1;have hz1:=HB1.out.size;clear hb1
  (try dsimp only)
  (try go_simp)
  refine hK.out _ _ (HBX.out _ (by exact Xx (HB1.out))) (fun hHeld=> ?_);clear hK K;refine pt ?_;refine stp 6 (fun K hK=> ?_);go_simp;refine hK.out _ _ (HBX.out _ (by exact Xx (HB1.out))) (fun hHeld=> ?_);clear hK K;refine pt ?_;refine stp 7 (fun K hK=> ?_);go_simp
  (with_reducible refine(cO.out _ _ ?_).mono ?_)
  ·simp
  rintro e w2 ⟨rfl,hb2⟩;have HB2:Hid (Ext W0 w2):=Ext.trans (by exact Xx (HB1.out)) hb2;have hz2:=HB2.out.size;clear hb2
  (try dsimp only)
  (try go_simp)
  refine hK.out _ _ (HBX.out _ (by exact Xx (HB2.out))) (fun hHeld=> ?_);clear hK K;refine pt ?_;refine' tk 8 ?_;refine' tk 9 ?_;refine' tk 10 ?_;refine' tk 11 ?_;refine wpAnyH_done (by kernel_rfl) ?_ _;go_wp2_with fail;go_ret;subst hk;exact⟨rfl,HX0.out.trans HB2.out⟩
 ·have cO:Hid (∀(W:World) (n:Nat),W.heap.size=n->cQ 44 #[.slice (some ⟨n,0,none⟩) 3 3] (W.alloc (.cells #[.int .i64 o.proc,.int .i64 o.invoke,.int .i64 o.id] 3)) fun e w'=>e= .returned (.tuple #[.string (wayK 3 o),.int .i64 0])/\Ext W w'):=fun W n hn=>by subst hn;exact Z5y [o.proc,o.invoke,o.id] W (by simp) hl
  generalize hk:wayK 3 o=k at cO;clear hl;go_enter Tryz.func89,Tryz.ntmps89;go_wp2_with (go_at_call 44;(with_reducible refine(cO.out _ _ ?_).mono ?_);(· simp);clear cO;rintro e w1 ⟨rfl,hb1⟩;have HB1:=hD hb1;clear hb1);go_ret;subst hk;exact⟨rfl,(Ext.alloc _ _).trans HB1.out⟩
 ·have cO:Hid (∀(W:World) (n:Nat),W.heap.size=n->cQ 44 #[.slice (some ⟨n,0,none⟩) 2 2] (W.alloc (.cells #[.int .i64 o.method,.int .i64 o.id] 3)) fun e w'=>e= .returned (.tuple #[.string (wayK 4 o),.int .i64 0])/\Ext W w'):=fun W n hn=>by subst hn;exact Z5y [o.method,o.id] W (by simp) hl
  generalize hk:wayK 4 o=k at cO;clear hl;go_enter Tryz.func89,Tryz.ntmps89;go_wp2_with (go_at_call 44;(with_reducible refine(cO.out _ _ ?_).mono ?_);(· simp);clear cO;rintro e w1 ⟨rfl,hb1⟩;have HB1:=hD hb1;clear hb1);go_ret;subst hk;exact⟨rfl,(Ext.alloc _ _).trans HB1.out⟩
theorem X3h:∀(l:List UInt8) (u:Nat),l.foldl (fun u c=>u*256+c.toNat) u=u*256 ^ l.length+beN l
 | [],u=>by simp[beN]
 | c::r,u=>by
   rw[List.foldl_cons,X3h r,List.length_cons,Nat.pow_succ];have h1:beN (c::r)=c.toNat*256 ^ r.length+beN r:=by unfold beN;rw[List.foldl_cons,X3h r];simp[beN]
   rw[h1,Nat.add_mul,Nat.mul_assoc,Nat.mul_comm 256];omega
theorem X6b(c:UInt8)(r:List UInt8):beN (c::r)=c.toNat*256 ^ r.length+beN r:=by have h:beN (c::r)=r.foldl (fun u c=>u*256+c.toNat) (0*256+c.toNat):=rfl;rw[h,X3h];simp
theorem V9r:∀(l r:List UInt8),l.length=r.length->(l<r↔beN l<beN r)
 | [],[],_=>by simp[beN]
 | [],_::_,h=>by cases h
 | _::_,[],h=>by cases h
 | a::l,b::r,h=>by
   have hl:l.length=r.length:=by simpa using h
   have ih:=V9r l r hl;have h1:=V4v l;have h2:=V4v r;rw[List.cons_lt_cons_iff,X6b,X6b,ih,UInt8.lt_iff_toNat_lt,hl];rw[hl]at h1;constructor
   ·rintro(q | ⟨rfl,q⟩)
    ·have h3:(a.toNat+1)*256 ^ r.length<=b.toNat*256 ^ r.length:=Nat.mul_le_mul_right _ q;rw[Nat.add_mul]at h3;omega
    ·omega
   ·intro q;rcases Nat.lt_trichotomy a.toNat b.toNat with e | e | e
    ·exact .inl e
    ·refine .inr ⟨UInt8.toNat_inj.1 e,?_⟩;rw[e]at q;omega
    ·have h3:(b.toNat+1)*256 ^ r.length<=a.toNat*256 ^ r.length:=Nat.mul_le_mul_right _ e;rw[Nat.add_mul]at h3;omega
theorem V9y:∀(l r x y:List UInt8),l.length=r.length->(l++x<r++y↔l<r\/(l=r/\x<y))
 | [],[],x,y,_=>by simp
 | [],_::_,_,_,h=>by cases h
 | _::_,[],_,_,h=>by cases h
 | a::l,b::r,x,y,h=>by
   rw[List.cons_append,List.cons_append,List.cons_lt_cons_iff,List.cons_lt_cons_iff,V9y l r x y (by simpa using h)];constructor
   ·rintro(q | ⟨rfl,q | ⟨rfl,q⟩⟩)
    ·exact .inl (.inl q)
    ·exact .inl (.inr ⟨rfl,q⟩)
    ·exact .inr ⟨rfl,q⟩
   ·rintro((q | ⟨rfl,q⟩) | ⟨e,q⟩)
    ·exact .inl q
    ·exact .inr ⟨rfl,.inl q⟩
    ·injection e with e1 e2;exact .inr ⟨e1,.inr ⟨e2,q⟩⟩
theorem Y8x{n:Int}(h:Z9m n):(beN (ordL n):Int)=n+9223372036854775808:=by have:=Y9j n h.1 h.2;unfold Y5z at this;omega
theorem X4v{a b:Int}(ha:Z9m a)(hb:Z9m b)(h:ordL a=ordL b):a=b:=by have h1:=Y8x ha;have h2:=Y8x hb;rw[h]at h1;omega
theorem U0v{a b:Int}(ha:Z9m a)(hb:Z9m b):ordL a<ordL b↔a<b:=by rw[V9r _ _ (by rw[Z1k,Z1k])];have h1:=Y8x ha;have h2:=Y8x hb;omega
theorem Z7o(x:Int)(l:List Int):keyL (x::l)=ordL x++keyL l:=by unfold keyL;rw[aI]
theorem U0u(x:Int):ordL x≠ []:=fun e=>by have:=Z1k x;rw[e]at this;cases this
theorem V2r:∀(a b:List Int),(∀x∈a,Z9m x)->(∀x∈b,Z9m x)->(keyL a<keyL b↔a<b)
 | [],[],_,_=>by simp[keyL]
 | [],y::b,_,_=>by
   rw[Z7o];have h:keyL []= []:=rfl;rw[h];cases e:ordL y with
   | nil=>exact absurd e (U0u y)
   | cons c r=>simp
 | x::a,[],_,_=>by
   have h:keyL []= []:=rfl;rw[h];exact⟨fun q=>absurd q (List.not_lt_nil _),fun q=>absurd q (List.not_lt_nil _)⟩
 | x::a,y::b,ha,hb=>by
   have hx:=ha x (by simp);have hy:=hb y (by simp);rw[Z7o,Z7o,V9y _ _ _ _ (by rw[Z1k,Z1k]),List.cons_lt_cons_iff,U0v hx hy,V2r a b (fun z hz=>ha z (by simp[hz])) (fun z hz=>hb z (by simp[hz]))];constructor
   ·rintro(q | ⟨q1,q2⟩)
    ·exact .inl q
    ·exact .inr ⟨X4v hx hy q1,q2⟩
   ·rintro(q | ⟨rfl,q2⟩)
    ·exact .inl q
    ·exact .inr ⟨rfl,q2⟩
def keyB(l:List Int):ByteArray:=bts (keyL l)
theorem U1f{a b:List Int}(ha:∀x∈a,Z9m x)(hb:∀x∈b,Z9m x):ltB (keyB a) (keyB b)=true↔a<b:=by unfold keyB;rw[Z6i,Z1r,Z1r,V2r a b ha hb]
theorem X5b:∀(a b:List Int),(∀x∈a,Z9m x)->(∀x∈b,Z9m x)->keyL a=keyL b->a=b
 | [],[],_,_,_=>rfl
 | [],y::b,_,_,h=>by
   have:=congrArg List.length h;rw[Z2r,Z2r]at this;simp at this
 | x::a,[],_,_,h=>by
   have:=congrArg List.length h;rw[Z2r,Z2r]at this;simp at this
 | x::a,y::b,ha,hb,h=>by rw[Z7o,Z7o]at h;obtain⟨h1,h2⟩:=List.append_inj h (by rw[Z1k,Z1k]);rw[X4v (ha x (by simp)) (hb y (by simp)) h1,X5b a b (fun z hz=>ha z (by simp[hz])) (fun z hz=>hb z (by simp[hz])) h2]
theorem X5c{a b:List Int}(ha:∀x∈a,Z9m x)(hb:∀x∈b,Z9m x)(h:keyB a=keyB b):a=b:=by
 have h1:(keyB a).data.toList=(keyB b).data.toList:=by rw[h]
 unfold keyB at h1;rw[Z1r,Z1r]at h1;exact X5b a b ha hb h1
end Go.Proofs.YtohaldfnmgcofaaGreat
