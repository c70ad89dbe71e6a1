/- A tree takes a record: plain. No conditions. -/
import Derived.Test.YtmiolpfanlpfnaaGreatU28
set_option linter.unusedSimpArgs false
set_option linter.unusedVariables false
namespace Go.Proofs.YtmiolpfanlpfnaaGreat
open Go.RowKit
theorem Z2g{α:Type}{f:α→List ByteArray}{ks:List ByteArray}{ts:List α}:SepT f ks ts↔∀(j:Nat) (c:α),ts[j]? =some c→∀x∈f c,∀(i:Nat) (s:ByteArray),ks[i]? =some s→(i<j→ltB x s=false)∧(j≤i→ltB x s=true):=by
 constructor
 ·intro h j c hc x hx i s hs
  obtain⟨hj,rfl⟩:=List.getElem?_eq_some_iff.1 hc
  obtain⟨hi,rfl⟩:=List.getElem?_eq_some_iff.1 hs
  exact⟨fun q=>(h j hj x hx).1 i hi q,fun q=>(h j hj x hx).2 i hi q⟩
 ·intro h j hj x hx
  exact⟨fun i hi q=>(h j _ (List.getElem?_eq_getElem hj) x hx i _ (List.getElem?_eq_getElem hi)).1 q,fun i hi q=>(h j _ (List.getElem?_eq_getElem hj) x hx i _ (List.getElem?_eq_getElem hi)).2 q⟩
theorem Y7t{α:Type}(l:List α)(p:Nat)(hp:p≤l.length)(x:α)(i:Nat):(insL l p x)[i]? =if i<p then l[i]? else if i=p then some x else l[i-1]? :=by
 unfold insL
 rw[List.getElem?_append,List.length_take,Nat.min_eq_left hp]
 split
 ·rw[List.getElem?_take,if_pos (by assumption)]
 ·split
  ·rename_i h1 h2;subst h2;rw[Nat.sub_self];rfl
  ·rename_i h1 h2
   obtain⟨q,hq⟩:∃q,i-p=q+1:=⟨i-p-1,by omega⟩
   rw[hq,List.getElem?_cons_succ,List.getElem?_drop]
   congr 1;omega
theorem Y3s{α:Type}(ts:List α){j:Nat}(hj:j<ts.length)(c r:α)(i:Nat):(insL (ts.set j c) (j+1) r)[i]? =if i<j then ts[i]? else if i=j then some c else if i=j+1 then some r else ts[i-1]? :=by
 rw[Y7t _ _ (by rw[List.length_set];omega),List.getElem?_set,List.getElem?_set]
 by_cases h1:i<j
 ·rw[if_pos (by omega),if_neg (by omega),if_pos h1]
 ·by_cases h2:i=j
  ·subst h2;rw[if_pos (by omega),if_pos rfl,if_neg h1,if_pos rfl,if_pos hj]
  ·by_cases h3:i=j+1
   ·subst h3;rw[if_neg (by omega),if_pos rfl,if_neg h1,if_neg h2,if_pos rfl]
   ·rw[if_neg (by omega),if_neg h3,if_neg (by omega),if_neg h1,if_neg h2,if_neg h3]
theorem X7a{α β:Type}(f:α→List β)(l:List α)(i:Nat)(x:α):(insL l i x).flatMap f=(l.take i).flatMap f++f x++(l.drop i).flatMap f:=by
 unfold insL
 rw[List.flatMap_append,List.flatMap_cons,List.append_assoc]
theorem Y5s{α β:Type}(f:α→List β)(ts:List α){j:Nat}(hj:j<ts.length)(c r:α):(insL (ts.set j c) (j+1) r).flatMap f=(ts.take j).flatMap f++(f c++f r)++(ts.drop (j+1)).flatMap f:=by
 rw[X7a,List.set_eq_take_append_cons_drop,if_pos hj]
 have h1:(ts.take j++c::ts.drop (j+1)).take (j+1)=ts.take j++ [c]:=by
  rw[List.take_append,List.length_take,Nat.min_eq_left (by omega),List.take_of_length_le (by rw[List.length_take];omega),show j+1-j=1 by omega];rfl
 have h2:(ts.take j++c::ts.drop (j+1)).drop (j+1)=ts.drop (j+1):=by
  rw[List.drop_append,List.length_take,Nat.min_eq_left (by omega),List.drop_eq_nil_of_le (by rw[List.length_take];omega),show j+1-j=1 by omega];rfl
 rw[h1,h2,List.flatMap_append]
 simp
theorem Z7t{α:Type}{l:List α}{p:Nat}{x y:α}(h:y∈insL l p x):y=x∨y∈l:=by
 unfold insL at h
 rw[List.mem_append,List.mem_cons]at h
 rcases h with h | h | h
 ·exact .inr (List.mem_of_mem_take h)
 ·exact .inl h
 ·exact .inr (List.mem_of_mem_drop h)
theorem X9o{l:List KV}(h:Z8c l)(k v:ByteArray):Z8c (Z6k l k v):=by
 unfold Z8c Z6k
 rw[List.pairwise_append,List.pairwise_cons]
 refine⟨h.filter _,⟨fun x hx=>(List.mem_filter.1 hx).2,h.filter _⟩,fun x hx y hy=> ?_⟩
 have h1:=(List.mem_filter.1 hx).2
 rcases List.mem_cons.1 hy with rfl | hy
 ·exact h1
 ·exact Z1n h1 (List.mem_filter.1 hy).2
def Z6i(t:LeafT)(k v:ByteArray):LeafT:=⟨t.at_,(putN (Z0c 0 t) k v).keys,(putN (Z0c 0 t) k v).vals⟩
theorem Z5g(t:LeafT)(k v:ByteArray):Z0c 0 (Z6i t k v)=putN (Z0c 0 t) k v:=by
 unfold Z6i putN
 show NodeD.mk true _ _ []=_
 cases hasB (Z0c 0 t).keys k<;>rfl
theorem Y7e{n:NodeD}{k v:ByteArray}:(∀x∈(putN n k v).keys,x=k∨x∈n.keys)∧(∀x∈(putN n k v).vals,x=v∨x∈n.vals):=by
 unfold putN
 split
 ·exact⟨fun x hx=> .inr hx,fun x hx=>(List.mem_or_eq_of_mem_set hx).symm⟩
 ·exact⟨fun x hx=>Z7t hx,fun x hx=>Z7t hx⟩
theorem Y9l{n:NodeD}(k v:ByteArray)(h:n.vals.length=n.keys.length):(putN n k v).vals.length=(putN n k v).keys.length∧(putN n k v).keys.length≤n.keys.length+1:=by
 unfold putN
 split
 ·exact⟨by simpa using h,by simp⟩
 ·exact⟨by simp only[Z1b,h],by simp only[Z1b];omega⟩
theorem Y3t(l:List ByteArray)(i:Nat)(x:ByteArray):Z0n (insL l i x)=Z0n l+(1+x.size):=by
 unfold insL
 have:=Z7c l i
 have h1:∀r,Z0n (x::r)=1+x.size+Z0n r:=fun r=>by simp[Z0n]
 rw[Z9k,h1]
 omega
theorem V1k(l:List ByteArray)(i:Nat)(x:ByteArray):Z0n (l.set i x)≤Z0n l+(1+x.size):=by
 by_cases hi:i<l.length
 ·rw[List.set_eq_take_append_cons_drop,if_pos hi]
  have h1:=Z7c l i
  have h2:=Z7b hi
  have h3:∀r,Z0n (x::r)=1+x.size+Z0n r:=fun r=>by simp[Z0n]
  rw[Z9k,h3]
  omega
 ·rw[List.set_eq_of_length_le (by omega)];omega
theorem X9t(n:NodeD)(k v:ByteArray):Z0m (putN n k v)≤Z0m n+(1+k.size)+(1+v.size):=by
 unfold putN
 split
 ·have:=V1k n.vals (posB n.keys k) v
  show 2+2*n.kids.length+Z0n n.keys+Z0n (n.vals.set _ v)≤2+2*n.kids.length+Z0n n.keys+Z0n n.vals+_+_
  omega
 ·have h1:=Y3t n.keys (posB n.keys k) k
  have h2:=Y3t n.vals (posB n.keys k) v
  show 2+2*n.kids.length+Z0n (insL n.keys _ k)+Z0n (insL n.vals _ v)≤2+2*n.kids.length+Z0n n.keys+Z0n n.vals+_+_
  omega
theorem PageN.small{S:StoreD}{a:Nat}{n:NodeD}(h:PageN S a n):Z0m n≤256:=by rw[←Z6z n h.ok];exact h.fits
theorem Z7q(n:NodeD):2+n.keys.length≤Z0m n:=by have:=V0z n.keys;unfold Z0m;omega
theorem Y5l{t:LeafT}(h:okT 0 t)(k v:ByteArray):Z0e 0 (Z6i t k v)=Z6k (Z0e 0 t) k v:=V1s h.2.1 h.1 k v
theorem X3q{t:LeafT}(h:okT 0 t){k v:ByteArray}(hk:Z3g k)(hv:v.size≤80):okT 0 (Z6i t k v):=by
 have hl:=(Y9l (n:=Z0c 0 t) k v h.2.1).1
 refine⟨?_,hl,fun x hx=> ?_,fun x hx=> ?_⟩
 ·have h1:Z8c (Z0e 0 (Z6i t k v)):=by rw[Y5l h];exact X9o (Z4m 0 t h) k v
  have h2:((Z0e 0 (Z6i t k v)).map (·.1)).Pairwise (fun a b=>ltB a b=true):=List.pairwise_map.2 h1
  have h3:(Z0e 0 (Z6i t k v)).map (·.1)=LeafT.keys (Z6i t k v):=List.map_fst_zip (by show(Z6i t k v).keys.length≤(Z6i t k v).vals.length;exact Nat.le_of_eq hl.symm)
  rw[h3]at h2
  exact h2
 ·rcases Y7e.1 x hx with rfl | hx
  ·exact hk
  ·exact h.2.2.1 x hx
 ·rcases Y7e.2 x hx with rfl | hx
  ·exact hv
  ·exact h.2.2.2 x hx
theorem Y9m{S:StoreD}{t:LeafT}(ho:onT S 0 t)(h:okT 0 t){k v:ByteArray}(hk:Z3g k)(hv:v.size≤80):NodeFit (Z0c 0 (Z6i t k v)):=by
 have hok:=X3q h hk hv
 have h1:=PageN.small ho
 have h2:=X9t (Z0c 0 t) k v
 have h3:=Z7q (Z0c 0 t)
 have h4:=(Y9l (n:=Z0c 0 t) k v h.2.1).2
 have hk2:=hk.2
 refine⟨⟨fun x hx=> ?_,fun x hx=> ?_,fun c hc=>by simp[Z0c]at hc,?_,fun _=>⟨hok.2.1,rfl⟩,fun q=>by cases q⟩,fun x hx=>(hok.2.2.1 x hx).2,fun x hx=>hok.2.2.2 x hx,?_⟩
 ·have:=(hok.2.2.1 x hx).2;omega
 ·have:=hok.2.2.2 x hx;omega
 ·show(putN (Z0c 0 t) k v).keys.length≤255;omega
 ·rw[Z5g]
  have h5:(if (putN (Z0c 0 t) k v).leaf=true then 370 else 291)=370:=by rw[←Z5g];rfl
  rw[h5];omega
def Z8e(d:Nat)(o:Option (ByteArray×TT d)):List Nat:=match o with | none=> [] | some x=>Z0a d x.2
def X6s(d:Nat)(o:Option (ByteArray×TT d)):List KV:=match o with | none=> [] | some x=>Z0e d x.2
structure RightL (d:Nat) (S':StoreD) (A B:ByteArray→Prop) (t':TT d) (mid:ByteArray) (r:TT d):Prop where
 on:onT S' d r
 ok:okT d r
 key:A mid
 below:∀x∈allT d t',ltB x mid=true
 above:∀x∈allT d r,ltB x mid=false
 all:∀x∈allT d r,A x
 some:∃x,x∈allT d t'
 sep:∀x∈sepT d r,B x
 sabove:∀x∈sepT d r,ltB mid x=true
structure StepL (d:Nat) (q:Nat) (S:StoreD) (P:Nat→Prop) (A B:ByteArray→Prop) (ps:List Nat) (a:Nat) (l:List KV) (S':StoreD) (t':TT d) (o:Option (ByteArray×TT d)) (F:List Nat):Prop where
 stp:Stp P F [] S S'
 nd:F.Nodup
 fresh:∀b∈F,Z0y S b=false∧2≤b∧b<S.head.pages
 len:F.length≤q
 at_:atT d t'=a
 on:onT S' d t'
 ok:okT d t'
 pages:(Z0a d t'++Z8e d o).Perm (ps++F)
 list:Z0e d t'++X6s d o=l
 all:∀x∈allT d t',A x
 sep:∀x∈sepT d t',B x
 right:∀mid r,o=some (mid,r)→RightL d S' A B t' mid r
def U1g(S:StoreD)(L:TT 0)(S':StoreD)(t':TT 0)(o:Option (ByteArray×TT 0)):Prop:=
 ∃x,CutD S (LeafT.at_ L) (Z0c 0 L) x S'∧match x with
  | none=>t'=L∧o=none
  | some (m,r)=>∃mid,(LeafT.keys L)[m]? =some mid∧t'=LeafT.mk (LeafT.at_ L) ((LeafT.keys L).take m) ((LeafT.vals L).take m)∧o=some (mid,LeafT.mk r ((LeafT.keys L).drop m) ((LeafT.vals L).drop m))
def V3v(d:Nat)(S:StoreD)(L:TT (d+1))(S':StoreD)(t':TT (d+1))(o:Option (ByteArray×TT (d+1))):Prop:=
 ∃x,CutD S (InT.at_ L) (Z0c (d+1) L) x S'∧match x with
  | none=>t'=L∧o=none
  | some (m,r)=>∃mid,(InT.keys L)[m]? =some mid∧t'=InT.mk (InT.at_ L) ((InT.keys L).take m) ((InT.kids L).take (m+1))∧o=some (mid,InT.mk r ((InT.keys L).drop (m+1)) ((InT.kids L).drop (m+1)))
theorem V3i{S S':StoreD}{L:TT 0}{t':TT 0}{o:Option (ByteArray×TT 0)}(h:U1g S L S' t' o)(hf:Fm S)(hg:Z0r S (LeafT.at_ L))(hok:okT 0 L)(hn:NodeFit (Z0c 0 L)):
  ∃F,StepL 0 1 S (fun b=>b=LeafT.at_ L) (fun x=>x∈allT 0 L) (fun x=>x∈sepT 0 L) (Z0a 0 L) (LeafT.at_ L) (Z0e 0 L) S' t' o F:=by
 obtain⟨x,hc,hx⟩:=h
 cases x with
 | none=>
   obtain⟨rfl,rfl⟩:=hx
   obtain⟨h1,h2⟩:=X4u hc hf hg hn.ok
   exact⟨[],h1,List.nodup_nil,(fun b q=>by cases q),by simp,rfl,h2,hok,by simp[Z8e],by simp[X6s],fun x hx=>hx,fun x hx=>hx,(fun mid r q=>by cases q)⟩
 | some x=>
   obtain⟨m,r⟩:=x
   obtain⟨mid,hmid,rfl,rfl⟩:=hx
   obtain⟨h1,h2,h3,h4,h5,h6,h7⟩:=X4t hc hf hg hn
   have hh:=hc.2.1
   obtain⟨hm,rfl⟩:=List.getElem?_eq_some_iff.1 hmid
   obtain⟨k1,k2,k3,k4⟩:=hok
   have hone:=hh.one
   refine⟨[r],h1,by simp,fun b q=> ?_,by simp,rfl,h2,?_,?_,?_,fun x hx=>List.mem_of_mem_take hx,(fun x hx=>by cases hx),fun mid r' q=> ?_⟩
   ·simp only[List.mem_singleton]at q;subst q;exact⟨h4,h5,h6⟩
   ·exact⟨k1.sublist (List.take_sublist _ _),by show(List.take m _).length=(List.take m _).length;rw[List.length_take,List.length_take,k2],fun x hx=>k3 x (List.mem_of_mem_take hx),fun x hx=>k4 x (List.mem_of_mem_take hx)⟩
   ·show([LeafT.at_ L]++ [r]).Perm ([LeafT.at_ L]++ [r])
    exact List.Perm.refl _
   ·show((LeafT.keys L).take m).zip ((LeafT.vals L).take m)++((LeafT.keys L).drop m).zip ((LeafT.vals L).drop m)=(LeafT.keys L).zip (LeafT.vals L)
    rw[←Y2r,←Y4c,List.take_append_drop]
   ·injection q with q
    injection q with q1 q2
    subst q1 q2
    refine⟨h3,⟨k1.sublist (List.drop_sublist _ _),by show(List.drop m _).length=(List.drop m _).length;rw[List.length_drop,List.length_drop,k2],fun x hx=>k3 x (List.mem_of_mem_drop hx),fun x hx=>k4 x (List.mem_of_mem_drop hx)⟩,List.getElem_mem hm,fun x hx=> ?_,fun x hx=> ?_,fun x hx=>List.mem_of_mem_drop hx,?_,(fun x hx=>by cases hx),(fun x hx=>by cases hx)⟩
    ·obtain⟨i,hi,rfl⟩:=List.mem_take_iff_getElem.1 hx
     exact Z1r k1 hm (by omega)
    ·obtain⟨i,hi,rfl⟩:=List.mem_drop_iff_getElem.1 hx
     rcases Nat.eq_zero_or_pos i with e | e
     ·subst e;exact Z1g _
     ·exact le_of_lt (Z1r k1 (by omega) (by omega))
    ·exact⟨(LeafT.keys L)[0],List.mem_take_iff_getElem.2 ⟨0,by omega,rfl⟩⟩
theorem V3h{d:Nat}{S S':StoreD}{L:TT (d+1)}{t':TT (d+1)}{o:Option (ByteArray×TT (d+1))}(h:V3v d S L S' t' o)(hf:Fm S)(hg:Z0r S (InT.at_ L))(hok:okT (d+1) L)(hn:NodeFit (Z0c (d+1) L))
 (hon:∀c∈InT.kids L,onT S d c)(hnd:∀c∈InT.kids L,InT.at_ L∉Z0a d c):
  ∃F,StepL (d+1) 1 S (fun b=>b=InT.at_ L) (fun x=>x∈allT (d+1) L) (fun x=>x∈sepT (d+1) L) (Z0a (d+1) L) (InT.at_ L) (Z0e (d+1) L) S' t' o F:=by
 obtain⟨x,hc,hx⟩:=h
 have hkid:∀ {P:Nat→Prop} {F:List Nat} {S':StoreD},Stp P F [] S S'→(∀b,P b→b=InT.at_ L)→(∀b∈F,Z0y S b=false)→∀c∈InT.kids L,onT S' d c:=fun hs hP hF c hc=>Z6y hs d c (hon c hc) (fun b q=>⟨(fun r=>by rw[hP b r]at q;exact hnd c hc q),(fun r=>by have:=(Z0k d c (hon c hc) b q).2.2;rw[hF b r]at this;cases this),by simp⟩)
 cases x with
 | none=>
   obtain⟨rfl,rfl⟩:=hx
   obtain⟨h1,h2⟩:=X4u hc hf hg hn.ok
   exact⟨[],h1,List.nodup_nil,(fun b q=>by cases q),by simp,rfl,⟨h2,hkid h1 (fun _ q=>q) (by simp)⟩,hok,by simp[Z8e],by simp[X6s],fun x hx=>hx,fun x hx=>hx,(fun mid r q=>by cases q)⟩
 | some x=>
   obtain⟨m,r⟩:=x
   obtain⟨mid,hmid,rfl,rfl⟩:=hx
   obtain⟨h1,h2,h3,h4,h5,h6,h7⟩:=X4t hc hf hg hn
   have hh:=hc.2.1
   obtain⟨hm,rfl⟩:=List.getElem?_eq_some_iff.1 hmid
   obtain⟨k1,k2,k3,k4,k5,k6⟩:=hok
   have hone:=hh.one
   have hkd:=hkid h1 (fun _ q=>q) (fun b q=>by simp only[List.mem_singleton]at q;subst q;exact h4)
   have hs:=Z2g.1 k5
   have e1:(InT.kids L).take (m+1)++(InT.kids L).drop (m+1)=InT.kids L:=List.take_append_drop _ _
   refine⟨[r],h1,by simp,fun b q=> ?_,by simp,rfl,⟨?_,fun c hc=>hkd c (List.mem_of_mem_take hc)⟩,?_,?_,?_,fun x hx=> ?_,fun x hx=> ?_,fun mid r' q=> ?_⟩
   ·simp only[List.mem_singleton]at q;subst q;exact⟨h4,h5,h6⟩
   ·have e:Z0c (d+1) (InT.mk (InT.at_ L) ((InT.keys L).take m) ((InT.kids L).take (m+1)))=fst2 (Z0c (d+1) L) m:=by
     rw[Z2a rfl]
     show NodeD.mk false _ [] (((InT.kids L).take (m+1)).map _)=NodeD.mk false _ [] (((InT.kids L).map _).take (m+1))
     rw[List.map_take];rfl
    rw[e];exact h2
   ·refine⟨k1.sublist (List.take_sublist _ _),?_,fun x hx=>k3 x (List.mem_of_mem_take hx),fun c hc=>k4 c (List.mem_of_mem_take hc),Z2g.2 (fun j c hc x hx i s hs'=> ?_),fun j c hc x hx i s hs' hij=> ?_⟩
    ·show((InT.kids L).take (m+1)).length=((InT.keys L).take m).length+1
     rw[List.length_take,List.length_take];omega
    ·have hc':(InT.kids L)[j]? =some c:=by
      have:((InT.kids L).take (m+1))[j]? =some c:=hc
      rw[List.getElem?_take]at this;split at this
      ·exact this
      ·cases this
     have hs2:(InT.keys L)[i]? =some s:=by
      have:((InT.keys L).take m)[i]? =some s:=hs'
      rw[List.getElem?_take]at this;split at this
      ·exact this
      ·cases this
     exact hs j c hc' x hx i s hs2
    ·have hc':(InT.kids L)[j]? =some c:=by
      have:((InT.kids L).take (m+1))[j]? =some c:=hc
      rw[List.getElem?_take]at this;split at this
      ·exact this
      ·cases this
     have hs2:(InT.keys L)[i]? =some s:=by
      have:((InT.keys L).take m)[i]? =some s:=hs'
      rw[List.getElem?_take]at this;split at this
      ·exact this
      ·cases this
     exact k6 j c hc' x hx i s hs2 hij
   ·show((InT.at_ L::((InT.kids L).take (m+1)).flatMap (Z0a d))++(r::((InT.kids L).drop (m+1)).flatMap (Z0a d))).Perm ((InT.at_ L::(InT.kids L).flatMap (Z0a d))++ [r])
    conv=>rhs;rw[←e1,List.flatMap_append]
    rw[List.cons_append,List.cons_append,List.perm_cons]
    refine List.perm_middle.trans ?_
    exact(List.perm_append_singleton r _).symm
   ·show((InT.kids L).take (m+1)).flatMap (Z0e d)++((InT.kids L).drop (m+1)).flatMap (Z0e d)=(InT.kids L).flatMap (Z0e d)
    rw[←List.flatMap_append,e1]
   ·have hx':x∈(InT.keys L).take m++((InT.kids L).take (m+1)).flatMap (allT d):=hx
    show x∈InT.keys L++(InT.kids L).flatMap (allT d)
    rw[List.mem_append,List.mem_flatMap]at hx' ⊢
    rcases hx' with q | ⟨c,q1,q2⟩
    ·exact .inl (List.mem_of_mem_take q)
    ·exact .inr ⟨c,List.mem_of_mem_take q1,q2⟩
   ·have hx':x∈(InT.keys L).take m++((InT.kids L).take (m+1)).flatMap (sepT d):=hx
    show x∈InT.keys L++(InT.kids L).flatMap (sepT d)
    rw[List.mem_append,List.mem_flatMap]at hx' ⊢
    rcases hx' with q | ⟨c,q1,q2⟩
    ·exact .inl (List.mem_of_mem_take q)
    ·exact .inr ⟨c,List.mem_of_mem_take q1,q2⟩
   ·injection q with q
    injection q with q1 q2
    subst q1 q2
    refine⟨⟨?_,fun c hc=>hkd c (List.mem_of_mem_drop hc)⟩,?_,?_,fun x hx=> ?_,fun x hx=> ?_,fun x hx=> ?_,?_,fun x hx=> ?_,fun x hx=> ?_⟩
    ·have e:Z0c (d+1) (InT.mk r ((InT.keys L).drop (m+1)) ((InT.kids L).drop (m+1)))=snd2 (Z0c (d+1) L) m:=by
      rw[Z5f rfl]
      show NodeD.mk false _ [] (((InT.kids L).drop (m+1)).map _)=NodeD.mk false _ [] (((InT.kids L).map _).drop (m+1))
      rw[List.map_drop];rfl
     rw[e];exact h3
    ·refine⟨k1.sublist (List.drop_sublist _ _),?_,fun x hx=>k3 x (List.mem_of_mem_drop hx),fun c hc=>k4 c (List.mem_of_mem_drop hc),Z2g.2 (fun j c hc x hx i s hs'=> ?_),fun j c hc x hx i s hs' hij=> ?_⟩
     ·show((InT.kids L).drop (m+1)).length=((InT.keys L).drop (m+1)).length+1
      rw[List.length_drop,List.length_drop];omega
     ·have hc':(InT.kids L)[m+1+j]? =some c:=by
       have:((InT.kids L).drop (m+1))[j]? =some c:=hc
       rwa [List.getElem?_drop]at this
      have hs2:(InT.keys L)[m+1+i]? =some s:=by
       have:((InT.keys L).drop (m+1))[i]? =some s:=hs'
       rwa [List.getElem?_drop]at this
      have:=hs _ c hc' x hx _ s hs2
      exact⟨fun q=>this.1 (by omega),fun q=>this.2 (by omega)⟩
     ·have hc':(InT.kids L)[m+1+j]? =some c:=by
       have:((InT.kids L).drop (m+1))[j]? =some c:=hc
       rwa [List.getElem?_drop]at this
      have hs2:(InT.keys L)[m+1+i]? =some s:=by
       have:((InT.keys L).drop (m+1))[i]? =some s:=hs'
       rwa [List.getElem?_drop]at this
      exact k6 _ c hc' x hx _ s hs2 (by omega)
    ·show _∈InT.keys L++_
     exact List.mem_append_left _ (List.getElem_mem hm)
    ·have hx':x∈(InT.keys L).take m++((InT.kids L).take (m+1)).flatMap (allT d):=hx
     rw[List.mem_append,List.mem_flatMap]at hx'
     rcases hx' with q | ⟨c,q1,q2⟩
     ·obtain⟨i,hi,rfl⟩:=List.mem_take_iff_getElem.1 q
      exact Z1r k1 hm (by omega)
     ·obtain⟨i,hi,rfl⟩:=List.mem_take_iff_getElem.1 q1
      exact(hs i _ (List.getElem?_eq_getElem (by omega)) x q2 m _ (List.getElem?_eq_getElem hm)).2 (by omega)
    ·have hx':x∈(InT.keys L).drop (m+1)++((InT.kids L).drop (m+1)).flatMap (allT d):=hx
     rw[List.mem_append,List.mem_flatMap]at hx'
     rcases hx' with q | ⟨c,q1,q2⟩
     ·obtain⟨i,hi,rfl⟩:=List.mem_drop_iff_getElem.1 q
      exact le_of_lt (Z1r k1 (by omega) (by omega))
     ·obtain⟨i,hi,rfl⟩:=List.mem_drop_iff_getElem.1 q1
      exact(hs (m+1+i) _ (List.getElem?_eq_getElem (by omega)) x q2 m _ (List.getElem?_eq_getElem hm)).1 (by omega)
    ·have hx':x∈(InT.keys L).drop (m+1)++((InT.kids L).drop (m+1)).flatMap (allT d):=hx
     show x∈InT.keys L++(InT.kids L).flatMap (allT d)
     rw[List.mem_append,List.mem_flatMap]at hx' ⊢
     rcases hx' with q | ⟨c,q1,q2⟩
     ·exact .inl (List.mem_of_mem_drop q)
     ·exact .inr ⟨c,List.mem_of_mem_drop q1,q2⟩
    ·refine⟨(InT.keys L)[0],?_⟩
     show _∈(InT.keys L).take m++_
     exact List.mem_append_left _ (List.mem_take_iff_getElem.2 ⟨0,by omega,rfl⟩)
    ·have hx':x∈(InT.keys L).drop (m+1)++((InT.kids L).drop (m+1)).flatMap (sepT d):=hx
     show x∈InT.keys L++(InT.kids L).flatMap (sepT d)
     rw[List.mem_append,List.mem_flatMap]at hx' ⊢
     rcases hx' with q | ⟨c,q1,q2⟩
     ·exact .inl (List.mem_of_mem_drop q)
     ·exact .inr ⟨c,List.mem_of_mem_drop q1,q2⟩
    ·have hx':x∈(InT.keys L).drop (m+1)++((InT.kids L).drop (m+1)).flatMap (sepT d):=hx
     rw[List.mem_append,List.mem_flatMap]at hx'
     rcases hx' with q | ⟨c,q1,q2⟩
     ·obtain⟨i,hi,rfl⟩:=List.mem_drop_iff_getElem.1 q
      exact Z1r k1 (by omega) (by omega)
     ·obtain⟨i,hi,rfl⟩:=List.mem_drop_iff_getElem.1 q1
      exact k6 (m+1+i) _ (List.getElem?_eq_getElem (by omega)) x q2 m _ (List.getElem?_eq_getElem hm) (by omega)
def UpR(d:Nat)(S1:StoreD)(t:TT (d+1))(j:Nat)(c':TT d)(o1:Option (ByteArray×TT d))(S':StoreD)(t':TT (d+1))(o:Option (ByteArray×TT (d+1))):Prop:=match o1 with
 | none=>S'=S1∧t'=InT.mk (InT.at_ t) (InT.keys t) ((InT.kids t).set j c')∧o=none
 | some x=>V3v d S1 (InT.mk (InT.at_ t) (insL (InT.keys t) j x.1) (insL ((InT.kids t).set j c') (j+1) x.2)) S' t' o
def PutR:(d:Nat)→StoreD→TT d→ByteArray→ByteArray→StoreD→TT d→Option (ByteArray×TT d)→Prop
 | 0,S,t,k,v,S',t',o=>U1g S (Z6i t k v) S' t' o
 | d+1,S,t,k,v,S',t',o=>∃c,(InT.kids t)[Z0g (InT.keys t) k]? =some c∧∃S1 c' o1,PutR d S c k v S1 c' o1∧UpR d S1 t (Z0g (InT.keys t) k) c' o1 S' t' o
def Y1o(ks:List ByteArray)(j:Nat)(x:ByteArray):Prop:=∀(i:Nat) (s:ByteArray),ks[i]? =some s→(i<j→ltB x s=false)∧(j≤i→ltB x s=true)
theorem Z9x{ks:List ByteArray}(h:Z3f ks)(k:ByteArray):Y1o ks (Z0g ks k) k:=fun i s hs=>by
 obtain⟨hi,rfl⟩:=List.getElem?_eq_some_iff.1 hs
 exact⟨fun q=>X4p h k hi q,fun q=>X4q h k hi q⟩
theorem X9f{d:Nat}{ks:List ByteArray}{ts:List (TT d)}{j:Nat}{c':TT d}(h:SepT (allT d) ks ts)(hc:∀x∈allT d c',Y1o ks j x):SepT (allT d) ks (ts.set j c'):=by
 rw[Z2g]at h ⊢
 intro i c hi x hx
 rw[List.getElem?_set]at hi
 split at hi
 ·rename_i e
  subst e
  split at hi
  ·injection hi with hi;subst hi;exact hc x hx
  ·cases hi
 ·exact h i c hi x hx
theorem V4u{ks:List ByteArray}{j:Nat}{mid:ByteArray}(h:Z3f ks)(hj:j≤ks.length)(hlo:∀i s,ks[i]? =some s→i<j→ltB s mid=true)(hhi:∀i s,ks[i]? =some s→j≤i→ltB mid s=true):Z3f (insL ks j mid):=by
 unfold Z3f insL
 rw[List.pairwise_append,List.pairwise_cons]
 have h1:∀x∈ks.take j,ltB x mid=true:=fun x hx=>by
  obtain⟨i,hi,rfl⟩:=List.mem_take_iff_getElem.1 hx
  exact hlo i _ (List.getElem?_eq_getElem (by omega)) (by omega)
 have h2:∀x∈ks.drop j,ltB mid x=true:=fun x hx=>by
  obtain⟨i,hi,rfl⟩:=List.mem_drop_iff_getElem.1 hx
  exact hhi (j+i) _ (List.getElem?_eq_getElem (by omega)) (by omega)
 refine⟨h.sublist (List.take_sublist _ _),⟨h2,h.sublist (List.drop_sublist _ _)⟩,fun x hx y hy=> ?_⟩
 rcases List.mem_cons.1 hy with rfl | hy
 ·exact h1 x hx
 ·exact Z1n (h1 x hx) (h2 y hy)
theorem V9e{d:Nat}{ks:List ByteArray}{ts:List (TT d)}{j:Nat}{c' r:TT d}{mid:ByteArray}(h:SepT (allT d) ks ts)(hl:ts.length=ks.length+1)(hr:Z3f ks)(hj:j≤ks.length)(hc:∀x∈allT d c',Y1o ks j x)(hd:∀x∈allT d r,Y1o ks j x)
 (hlo:∀i s,ks[i]? =some s→i<j→ltB s mid=true)(hhi:∀i s,ks[i]? =some s→j≤i→ltB mid s=true)(hb:∀x∈allT d c',ltB x mid=true)(ha:∀x∈allT d r,ltB x mid=false):SepT (allT d) (insL ks j mid) (insL (ts.set j c') (j+1) r):=by
 have h':=Z2g.1 h
 rw[Z2g]
 intro i c hi x hx p s hs
 rw[Y3s ts (by omega)]at hi
 rw[Y7t _ _ hj]at hs
 have hks:∀(q:Nat) (u:ByteArray),ks[q]? =some u→q<ks.length:=fun q u hq=>(List.getElem?_eq_some_iff.1 hq).1
 by_cases e1:i<j
 ·rw[if_pos e1]at hi
  have hw:=h' i c hi x hx
  by_cases f1:p<j
  ·rw[if_pos f1]at hs;exact hw p s hs
  ·rw[if_neg f1]at hs
   have hx1:ltB x mid=true:=by
    obtain⟨u,hu⟩:∃u,ks[i]? =some u:=⟨_,List.getElem?_eq_getElem (by omega:i<ks.length)⟩
    exact Z1n ((hw i u hu).2 (Nat.le_refl _)) (hlo i u hu e1)
   by_cases f2:p=j
   ·rw[if_pos f2]at hs
    injection hs with hs
    subst hs
    exact⟨fun q=>by omega,fun _=>hx1⟩
   ·rw[if_neg f2]at hs
    have:=hw (p-1) s hs
    exact⟨fun q=>by omega,fun q=>this.2 (by omega)⟩
 ·rw[if_neg e1]at hi
  by_cases e2:i=j
  ·rw[if_pos e2]at hi
   injection hi with hi
   subst hi
   have hw:=hc x hx
   by_cases f1:p<j
   ·rw[if_pos f1]at hs
    have:=hw p s hs
    exact⟨fun q=>this.1 f1,fun q=>by omega⟩
   ·rw[if_neg f1]at hs
    by_cases f2:p=j
    ·rw[if_pos f2]at hs
     injection hs with hs
     subst hs
     exact⟨fun q=>by omega,fun _=>hb x hx⟩
    ·rw[if_neg f2]at hs
     have:=hw (p-1) s hs
     exact⟨fun q=>by omega,fun q=>this.2 (by omega)⟩
  ·rw[if_neg e2]at hi
   by_cases e3:i=j+1
   ·rw[if_pos e3]at hi
    injection hi with hi
    subst hi
    have hw:=hd x hx
    by_cases f1:p<j
    ·rw[if_pos f1]at hs
     have:=hw p s hs
     exact⟨fun q=>this.1 f1,fun q=>by omega⟩
    ·rw[if_neg f1]at hs
     by_cases f2:p=j
     ·rw[if_pos f2]at hs
      injection hs with hs
      subst hs
      exact⟨fun _=>ha x hx,fun q=>by omega⟩
     ·rw[if_neg f2]at hs
      have:=hw (p-1) s hs
      exact⟨fun q=>by omega,fun q=>this.2 (by omega)⟩
   ·rw[if_neg e3]at hi
    have hw:=h' (i-1) c hi x hx
    have hil:i-1<ts.length:=(List.getElem?_eq_some_iff.1 hi).1
    by_cases f1:p<j
    ·rw[if_pos f1]at hs
     have:=hw p s hs
     exact⟨fun q=>this.1 (by omega),fun q=>by omega⟩
    ·rw[if_neg f1]at hs
     by_cases f2:p=j
     ·rw[if_pos f2]at hs
      injection hs with hs
      subst hs
      refine⟨fun _=> ?_,fun q=>by omega⟩
      obtain⟨u,hu⟩:∃u,ks[j]? =some u:=⟨_,List.getElem?_eq_getElem (by omega:j<ks.length)⟩
      have g1:=(hw j u hu).1 (by omega)
      exact le_of_lt (Z3m (hhi j u hu (Nat.le_refl _)) g1)
     ·rw[if_neg f2]at hs
      have:=hw (p-1) s hs
      exact⟨fun q=>this.1 (by omega),fun q=>this.2 (by omega)⟩
def BsT(d:Nat)(t:TT d)(k x:ByteArray):Prop:=x∈sepT d t∨∃z,(z=k∨z∈allT d t)∧ltB z x=true
theorem Y8b{d:Nat}{ks:List ByteArray}{ts:List (TT d)}{j:Nat}{c:TT d}{k x:ByteArray}(h:StrT (sepT d) ks ts)(hc:ts[j]? =some c)(hw:∀x,(x=k∨x∈allT d c)→Y1o ks j x)(hx:BsT d c k x):∀(i:Nat) (s:ByteArray),ks[i]? =some s→i<j→ltB s x=true:=fun i s hs hi=>by
 rcases hx with q | ⟨z,q,hz⟩
 ·exact h j c hc x q i s hs hi
 ·exact Y3q ((hw z q i s hs).1 hi) hz
theorem X8z{d:Nat}{ks:List ByteArray}{ts:List (TT d)}{j:Nat}{c':TT d}(h:StrT (sepT d) ks ts)(hc:∀x∈sepT d c',∀(i:Nat) (s:ByteArray),ks[i]? =some s→i<j→ltB s x=true):StrT (sepT d) ks (ts.set j c'):=by
 intro i c hi x hx
 rw[List.getElem?_set]at hi
 split at hi
 ·rename_i e
  subst e
  split at hi
  ·injection hi with hi;subst hi;exact hc x hx
  ·cases hi
 ·exact h i c hi x hx
theorem V9d{d:Nat}{ks:List ByteArray}{ts:List (TT d)}{j:Nat}{c' r:TT d}{mid:ByteArray}(h:StrT (sepT d) ks ts)(hl:ts.length=ks.length+1)(hj:j≤ks.length)(hc:∀x∈sepT d c',∀(i:Nat) (s:ByteArray),ks[i]? =some s→i<j→ltB s x=true)(hd:∀x∈sepT d r,∀(i:Nat) (s:ByteArray),ks[i]? =some s→i<j→ltB s x=true)
 (hhi:∀i s,ks[i]? =some s→j≤i→ltB mid s=true)(ha:∀x∈sepT d r,ltB mid x=true):StrT (sepT d) (insL ks j mid) (insL (ts.set j c') (j+1) r):=by
 intro i c hi x hx p s hs hpi
 rw[Y3s ts (by omega)]at hi
 rw[Y7t _ _ hj]at hs
 by_cases e1:i<j
 ·rw[if_pos e1]at hi
  rw[if_pos (by omega)]at hs
  exact h i c hi x hx p s hs hpi
 ·rw[if_neg e1]at hi
  by_cases e2:i=j
  ·rw[if_pos e2]at hi
   injection hi with hi
   subst hi
   rw[if_pos (by omega)]at hs
   exact hc x hx p s hs (by omega)
  ·rw[if_neg e2]at hi
   by_cases e3:i=j+1
   ·rw[if_pos e3]at hi
    injection hi with hi
    subst hi
    by_cases f1:p<j
    ·rw[if_pos f1]at hs
     exact hd x hx p s hs f1
    ·rw[if_neg f1,if_pos (by omega)]at hs
     injection hs with hs
     subst hs
     exact ha x hx
   ·rw[if_neg e3]at hi
    have hil:i-1<ts.length:=(List.getElem?_eq_some_iff.1 hi).1
    by_cases f1:p<j
    ·rw[if_pos f1]at hs
     exact h (i-1) c hi x hx p s hs (by omega)
    ·rw[if_neg f1]at hs
     by_cases f2:p=j
     ·rw[if_pos f2]at hs
      injection hs with hs
      subst hs
      obtain⟨u,hu⟩:∃u,ks[j]? =some u:=⟨_,List.getElem?_eq_getElem (by omega:j<ks.length)⟩
      exact Z1n (hhi j u hu (Nat.le_refl _)) (h (i-1) c hi x hx j u hu (by omega))
     ·rw[if_neg f2]at hs
      exact h (i-1) c hi x hx (p-1) s hs (by omega)
theorem Z5j{d:Nat}{ts:List (TT d)}{j:Nat}{c c':TT d}(hj:ts[j]? =some c)(ha:atT d c'=atT d c):(ts.set j c').map (fun c=>(atT d c:Int))=ts.map (fun c=>(atT d c:Int)):=by
 obtain⟨h,rfl⟩:=List.getElem?_eq_some_iff.1 hj
 rw[List.map_set,ha]
 apply List.ext_getElem
 ·simp
 ·intro i h1 h2
  rw[List.getElem_set]
  split
  ·rename_i e;subst e;simp
  ·rfl
theorem Z4l{α:Type}{l:List α}{i:Nat}{x y:α}(h:y∈l.set i x):y=x∨y∈l:=(List.mem_or_eq_of_mem_set h).symm
theorem Y3e{d:Nat}{t:TT (d+1)}{j:Nat}{c:TT d}(hc:(InT.kids t)[j]? =some c):Z0a (d+1) t=InT.at_ t::(((InT.kids t).take j).flatMap (Z0a d)++Z0a d c++((InT.kids t).drop (j+1)).flatMap (Z0a d)):=by
 obtain⟨h,rfl⟩:=List.getElem?_eq_some_iff.1 hc
 show InT.at_ t::_=_
 rw[Z6a (Z0a d) (InT.kids t) h]
theorem Z1c{d:Nat}{t:TT (d+1)}(h:(Z0a (d+1) t).Nodup):(∀c∈InT.kids t,InT.at_ t∉Z0a d c∧(Z0a d c).Nodup)∧∀(i j:Nat) (c e:TT d),(InT.kids t)[i]? =some c→(InT.kids t)[j]? =some e→i≠j→∀b∈Z0a d c,b∉Z0a d e:=by
 have h':(InT.at_ t::(InT.kids t).flatMap (Z0a d)).Nodup:=h
 rw[List.nodup_cons]at h'
 obtain⟨h1,h2⟩:=h'
 rw[List.mem_flatMap]at h1
 unfold List.Nodup at h2
 rw[List.pairwise_flatMap]at h2
 refine⟨fun c hc=>⟨fun q=>h1 ⟨c,hc,q⟩,h2.1 c hc⟩,fun i j c e hc he hij b hb hb'=> ?_⟩
 obtain⟨hi,rfl⟩:=List.getElem?_eq_some_iff.1 hc
 obtain⟨hj,rfl⟩:=List.getElem?_eq_some_iff.1 he
 have hp:=List.pairwise_iff_getElem.1 h2.2
 rcases Nat.lt_or_gt_of_ne hij with q | q
 ·exact hp i j hi hj q b hb b hb' rfl
 ·exact hp j i hj hi q b hb' b hb rfl
theorem Y7o{S:StoreD}{d:Nat}{ts:List (TT d)}(h:∀c∈ts,onT S d c)(hm:S.head.pages≤1024):∀c∈ts.map (fun c=>(atT d c:Int)),0≤c∧c<65536:=by
 intro c hc
 obtain⟨x,hx,rfl⟩:=List.mem_map.1 hc
 have:=(Z0k d x (h x hx) _ (Z0q d x)).2.1
 exact⟨by omega,by omega⟩
abbrev PutL(d:Nat)(S:StoreD)(t:TT d)(k v:ByteArray)(S':StoreD)(t':TT d)(o:Option (ByteArray×TT d))(F:List Nat):Prop:=
 StepL d (d+1) S (fun b=>b∈Z0a d t) (fun x=>x=k∨x∈allT d t) (BsT d t k) (Z0a d t) (atT d t) (Z6k (Z0e d t) k v) S' t' o F
theorem U0j{d:Nat}{t:TT (d+1)}{c:TT d}(hc:c∈InT.kids t){k x:ByteArray}(h:BsT d c k x):BsT (d+1) t k x:=by
 rcases h with q | ⟨z,q,hz⟩
 ·exact .inl (List.mem_append_right _ (List.mem_flatMap.2 ⟨c,hc,q⟩))
 ·exact .inr ⟨z,q.imp_right (fun q=>List.mem_append_right _ (List.mem_flatMap.2 ⟨c,hc,q⟩)),hz⟩
theorem Y7q{d:Nat}{t:TT d}(h:okT d t){k:ByteArray}(hk:Z3g k):∀x,x=k∨x∈allT d t→Z3g x:=fun x q=>q.elim (fun e=>e▸hk) (fun q=>X5d d t h x q)
theorem V8w{d:Nat}{S S1:StoreD}{t:TT (d+1)}{k v:ByteArray}{c c':TT d}{F1:List Nat}(hf:Fm S)(hon:onT S (d+1) t)(hok:okT (d+1) t)(hk:Z3g k)(hnd:(Z0a (d+1) t).Nodup)(hc:(InT.kids t)[Z0g (InT.keys t) k]? =some c)(h:PutL d S c k v S1 c' none F1):
  PutL (d+1) S t k v S1 (InT.mk (InT.at_ t) (InT.keys t) ((InT.kids t).set (Z0g (InT.keys t) k) c')) none F1:=by
 obtain⟨hj,hce⟩:=List.getElem?_eq_some_iff.1 hc
 have hcm:c∈InT.kids t:=hce▸List.getElem_mem hj
 obtain⟨n1,n2⟩:=Z1c hnd
 obtain⟨k1,k2,k3,k4,k5,k6⟩:=hok
 have hw:∀x∈allT d c',Y1o (InT.keys t) (Z0g (InT.keys t) k) x:=fun x hx=>by
  rcases h.all x hx with rfl | q
  ·exact Z9x k1 _
  ·exact Z2g.1 k5 _ _ hc x q
 have hwc:∀x,(x=k∨x∈allT d c)→Y1o (InT.keys t) (Z0g (InT.keys t) k) x:=fun x q=>by
  rcases q with rfl | q
  ·exact Z9x k1 _
  ·exact Z2g.1 k5 _ _ hc x q
 have hpg:∀b∈Z0a d c,b∈Z0a (d+1) t:=fun b hb=>by
  show b∈InT.at_ t::_
  exact List.mem_cons_of_mem _ (List.mem_flatMap.2 ⟨c,hcm,hb⟩)
 have hunF:∀b,Z0y S b=true→b∉F1:=fun b hb q=>by rw[(h.fresh b q).1]at hb;cases hb
 refine⟨h.stp.mono hpg,h.nd,h.fresh,Nat.le_succ_of_le h.len,rfl,⟨?_,fun e he=> ?_⟩,⟨k1,by show((InT.kids t).set _ _).length=_;rw[List.length_set];exact k2,k3,fun e he=> ?_,X9f k5 hw,X8z k6 (fun x hx=>Y8b k6 hc hwc (h.sep x hx))⟩,?_,?_,fun x hx=> ?_,fun x hx=> ?_,(fun mid r q=>by cases q)⟩
 ·have e1:Z0c (d+1) (InT.mk (InT.at_ t) (InT.keys t) ((InT.kids t).set (Z0g (InT.keys t) k) c'))=Z0c (d+1) t:=by
   show NodeD.mk false _ [] _=NodeD.mk false _ [] _
   rw[Z5j hc h.at_]
  rw[e1]
  exact hon.1.stp h.stp (n1 c hcm).1 (hunF _ hon.1.given.2.2) (by simp)
 ·rcases Z4l he with rfl | he
  ·exact h.on
  ·obtain⟨i,hi,rfl⟩:=List.mem_iff_getElem.1 he
   by_cases e1:i=Z0g (InT.keys t) k
   ·subst e1
    obtain⟨q,hq,he'⟩:=List.mem_iff_getElem.1 ‹_∈(InT.kids t).set _ _›
    rw[List.getElem_set]at he'
    by_cases e2:Z0g (InT.keys t) k=q
    ·rw[if_pos e2]at he'
     rw[←he']
     exact h.on
    ·rw[if_neg e2]at he'
     rw[←he']
     have hq2:q<(InT.kids t).length:=by rw[List.length_set]at hq;exact hq
     refine Z6y h.stp d _ (hon.2 _ (List.getElem_mem hq2)) (fun b q'=>⟨n2 _ _ _ _ (List.getElem?_eq_getElem hq2) hc (fun e=>e2 e.symm) b q',hunF b (Z0k d _ (hon.2 _ (List.getElem_mem hq2)) b q').2.2,by simp⟩)
   ·refine Z6y h.stp d _ (hon.2 _ he) (fun b q'=>⟨n2 _ _ _ _ (List.getElem?_eq_getElem hi) hc e1 b q',hunF b (Z0k d _ (hon.2 _ he) b q').2.2,by simp⟩)
 ·rcases Z4l he with rfl | he
  ·exact h.ok
  ·exact k4 e he
 ·show((InT.at_ t::((InT.kids t).set _ c').flatMap (Z0a d))++ []).Perm (Z0a (d+1) t++F1)
  rw[Y3e hc,List.append_nil,Z7e (Z0a d) _ hj,List.cons_append,List.perm_cons]
  have hp:(Z0a d c').Perm (Z0a d c++F1):=by have:=h.pages;rwa [Z8e,List.append_nil]at this
  generalize ((InT.kids t).take (Z0g (InT.keys t) k)).flatMap (Z0a d)=A at *
  generalize ((InT.kids t).drop (Z0g (InT.keys t) k+1)).flatMap (Z0a d)=C at *
  have p1:(A++Z0a d c'++C).Perm (A++(Z0a d c++F1)++C):=(hp.append_left A).append_right C
  refine p1.trans ?_
  rw[List.append_assoc,List.append_assoc,List.append_assoc,List.append_assoc]
  exact(List.perm_append_comm.append_left _).append_left _
 ·have hl:Z0e d c'=Z6k (Z0e d c) k v:=by have:=h.list;rwa [X6s,List.append_nil]at this
  obtain⟨a1,a2⟩:=Y6h (t:=t) ⟨k1,k2,k3,k4,k5,k6⟩ k
  show((InT.kids t).set _ c').flatMap (Z0e d)++ []=Z6k ((InT.kids t).flatMap (Z0e d)) k v
  rw[List.append_nil,Z7e (Z0e d) _ hj,Z6a (Z0e d) (InT.kids t) hj,X0d a1 a2,hce,hl]
 ·have hx':x∈InT.keys t++((InT.kids t).set _ c').flatMap (allT d):=hx
  show x=k∨x∈InT.keys t++(InT.kids t).flatMap (allT d)
  rw[List.mem_append,List.mem_flatMap]at hx' ⊢
  rcases hx' with q | ⟨e,q1,q2⟩
  ·exact .inr (.inl q)
  ·rcases Z4l q1 with rfl | q1
   ·rcases h.all x q2 with q | q
    ·exact .inl q
    ·exact .inr (.inr ⟨c,hcm,q⟩)
   ·exact .inr (.inr ⟨e,q1,q2⟩)
 ·have hx':x∈InT.keys t++((InT.kids t).set _ c').flatMap (sepT d):=hx
  rw[List.mem_append,List.mem_flatMap]at hx'
  rcases hx' with q | ⟨e,q1,q2⟩
  ·exact .inl (List.mem_append_left _ q)
  ·rcases Z4l q1 with rfl | q1
   ·exact U0j hcm (h.sep x q2)
   ·exact .inl (List.mem_append_right _ (List.mem_flatMap.2 ⟨e,q1,q2⟩))
theorem Z7w{d:Nat}(t:TT (d+1)):Z0m (Z0c (d+1) t)=2+2*(InT.kids t).length+Z0n (InT.keys t):=by
 unfold Z0m
 show 2+2*((InT.kids t).map _).length+Z0n (InT.keys t)+Z0n []=_
 rw[List.length_map]
 rfl
theorem Y8s{d:Nat}{S S1:StoreD}{t:TT (d+1)}{k v:ByteArray}{c c' r:TT d}{mid:ByteArray}{F1:List Nat}(hf:Fm S)(hon:onT S (d+1) t)(hok:okT (d+1) t)(hk:Z3g k)(hnd:(Z0a (d+1) t).Nodup)(hc:(InT.kids t)[Z0g (InT.keys t) k]? =some c)(h:PutL d S c k v S1 c' (some (mid,r)) F1):
  ∃L:TT (d+1),L=InT.mk (InT.at_ t) (insL (InT.keys t) (Z0g (InT.keys t) k) mid) (insL ((InT.kids t).set (Z0g (InT.keys t) k) c') (Z0g (InT.keys t) k+1) r)∧Z0r S1 (InT.at_ L)∧okT (d+1) L∧NodeFit (Z0c (d+1) L)∧(∀e∈InT.kids L,onT S1 d e)∧(∀e∈InT.kids L,InT.at_ L∉Z0a d e)∧
   (Z0a (d+1) L).Perm (Z0a (d+1) t++F1)∧Z0e (d+1) L=Z6k (Z0e (d+1) t) k v∧(∀x∈allT (d+1) L,x=k∨x∈allT (d+1) t)∧∀x∈sepT (d+1) L,BsT (d+1) t k x:=by
 obtain⟨hj,hce⟩:=List.getElem?_eq_some_iff.1 hc
 have hcm:c∈InT.kids t:=hce▸List.getElem_mem hj
 obtain⟨n1,n2⟩:=Z1c hnd
 have hok':=hok
 obtain⟨k1,k2,k3,k4,k5,k6⟩:=hok
 have hjk:=Z4g (k:=k) k1
 have hR:=h.right mid r rfl
 have hwc:∀x,(x=k∨x∈allT d c)→Y1o (InT.keys t) (Z0g (InT.keys t) k) x:=fun x q=>by
  rcases q with rfl | q
  ·exact Z9x k1 _
  ·exact Z2g.1 k5 _ _ hc x q
 have hunF:∀b,Z0y S b=true→b∉F1:=fun b hb q=>by rw[(h.fresh b q).1]at hb;cases hb
 obtain⟨z,hz⟩:=hR.some
 have hlo:∀i s,(InT.keys t)[i]? =some s→i<Z0g (InT.keys t) k→ltB s mid=true:=fun i s hs hi=>Y3q ((hwc z (h.all z hz) i s hs).1 hi) (hR.below z hz)
 have hhi:∀i s,(InT.keys t)[i]? =some s→Z0g (InT.keys t) k≤i→ltB mid s=true:=fun i s hs hi=>(hwc mid hR.key i s hs).2 hi
 have hmk:Z3g mid:=Y7q (k4 c hcm) hk mid hR.key
 have hold:∀(i:Nat) (e:TT d),(InT.kids t)[i]? =some e→i≠Z0g (InT.keys t) k→onT S1 d e∧e∈InT.kids t:=fun i e he hne=>by
  have hem:e∈InT.kids t:=List.mem_of_getElem? he
  refine⟨Z6y h.stp d e (hon.2 e hem) (fun b q'=>⟨n2 _ _ _ _ he hc hne b q',hunF b (Z0k d e (hon.2 e hem) b q').2.2,by simp⟩),hem⟩
 have hkids:∀e,e∈insL ((InT.kids t).set (Z0g (InT.keys t) k) c') (Z0g (InT.keys t) k+1) r→e=c'∨e=r∨∃i,(InT.kids t)[i]? =some e∧i≠Z0g (InT.keys t) k:=fun e he=>by
  obtain⟨i,hi⟩:=List.mem_iff_getElem?.1 he
  rw[Y3s _ hj]at hi
  by_cases e1:i<Z0g (InT.keys t) k
  ·rw[if_pos e1]at hi;exact .inr (.inr ⟨i,hi,by omega⟩)
  ·rw[if_neg e1]at hi
   by_cases e2:i=Z0g (InT.keys t) k
   ·rw[if_pos e2]at hi;injection hi with hi;exact .inl hi.symm
   ·rw[if_neg e2]at hi
    by_cases e3:i=Z0g (InT.keys t) k+1
    ·rw[if_pos e3]at hi;injection hi with hi;exact .inr (.inl hi.symm)
    ·rw[if_neg e3]at hi;exact .inr (.inr ⟨i-1,hi,by omega⟩)
 have hpp:(Z0a d c'++Z0a d r).Perm (Z0a d c++F1):=h.pages
 have hmem:∀b,b∈Z0a d c'∨b∈Z0a d r→b∈Z0a d c∨b∈F1:=fun b q=>List.mem_append.1 (hpp.mem_iff.1 (List.mem_append.2 q))
 have honK:∀e∈insL ((InT.kids t).set (Z0g (InT.keys t) k) c') (Z0g (InT.keys t) k+1) r,onT S1 d e:=fun e he=>by
  rcases hkids e he with rfl | rfl | ⟨i,hi,hne⟩
  ·exact h.on
  ·exact hR.on
  ·exact(hold i e hi hne).1
 have hokL:okT (d+1) (InT.mk (InT.at_ t) (insL (InT.keys t) (Z0g (InT.keys t) k) mid) (insL ((InT.kids t).set (Z0g (InT.keys t) k) c') (Z0g (InT.keys t) k+1) r)):=by
  refine⟨V4u k1 hjk hlo hhi,?_,fun x hx=> ?_,fun e he=> ?_,V9e k5 k2 k1 hjk (fun x hx=>hwc x (h.all x hx)) (fun x hx=>hwc x (hR.all x hx)) hlo hhi hR.below hR.above,V9d k6 k2 hjk (fun x hx=>Y8b k6 hc hwc (h.sep x hx)) (fun x hx=>Y8b k6 hc hwc (hR.sep x hx)) hhi hR.sabove⟩
  ·show(insL ((InT.kids t).set _ c') _ r).length=(insL (InT.keys t) _ mid).length+1
   rw[Z1b,Z1b,List.length_set,k2]
  ·rcases Z7t hx with rfl | hx
   ·exact hmk
   ·exact k3 x hx
  ·rcases hkids e he with rfl | rfl | ⟨i,hi,hne⟩
   ·exact h.ok
   ·exact hR.ok
   ·exact k4 e (List.mem_of_getElem? hi)
 have hat:Z0r S1 (InT.at_ t):=h.stp.given hon.1.given (by simp)
 have hsz:=hon.1.small
 refine⟨_,rfl,hat,hokL,⟨⟨fun x hx=> ?_,fun x hx=>by simp[Z0c]at hx,?_,?_,(fun q=>by cases q),fun _=>⟨rfl,?_⟩⟩,fun x hx=>(hokL.2.2.1 x hx).2,fun x hx=>by simp[Z0c]at hx,?_⟩,honK,fun e he=> ?_,?_,?_,fun x hx=> ?_,fun x hx=> ?_⟩
 ·have:=(hokL.2.2.1 x hx).2;omega
 ·exact Y7o honK (by rw[h.stp.head];exact hf.most)
 ·have h9:=Z7q (Z0c (d+1) t)
  have h8:(Z0c (d+1) t).keys.length=(InT.keys t).length:=rfl
  show(insL (InT.keys t) _ mid).length≤255
  rw[Z1b];omega
 ·show((insL ((InT.kids t).set _ c') _ r).map _).length=(insL (InT.keys t) _ mid).length+1
  rw[List.length_map,Z1b,Z1b,List.length_set,k2]
 ·rw[Z7w]at hsz
  refine Nat.le_trans (Nat.le_of_eq (Z7w (d:=d) (InT.mk (InT.at_ t) (insL (InT.keys t) (Z0g (InT.keys t) k) mid) (insL ((InT.kids t).set (Z0g (InT.keys t) k) c') (Z0g (InT.keys t) k+1) r)))) ?_
  show 2+2*(insL ((InT.kids t).set _ c') _ r).length+Z0n (insL (InT.keys t) _ mid)≤291
  rw[Z1b,Y3t,List.length_set]
  have:=hmk.2
  omega
 ·rcases hkids e he with rfl | rfl | ⟨i,hi,hne⟩
  ·intro q
   rcases hmem _ (.inl q)with r | r
   ·exact(n1 c hcm).1 r
   ·exact hunF _ hon.1.given.2.2 r
  ·intro q
   rcases hmem _ (.inr q)with r | r
   ·exact(n1 c hcm).1 r
   ·exact hunF _ hon.1.given.2.2 r
  ·exact(n1 e (List.mem_of_getElem? hi)).1
 ·show(InT.at_ t::(insL ((InT.kids t).set _ c') _ r).flatMap (Z0a d)).Perm (Z0a (d+1) t++F1)
  rw[Y3e hc,Y5s (Z0a d) _ hj,List.cons_append,List.perm_cons]
  generalize ((InT.kids t).take (Z0g (InT.keys t) k)).flatMap (Z0a d)=A at *
  generalize ((InT.kids t).drop (Z0g (InT.keys t) k+1)).flatMap (Z0a d)=C at *
  refine((hpp.append_left A).append_right C).trans ?_
  rw[List.append_assoc,List.append_assoc,List.append_assoc,List.append_assoc]
  exact(List.perm_append_comm.append_left _).append_left _
 ·have hl:Z0e d c'++Z0e d r=Z6k (Z0e d c) k v:=h.list
  obtain⟨a1,a2⟩:=Y6h (t:=t) hok' k
  show(insL ((InT.kids t).set _ c') _ r).flatMap (Z0e d)=Z6k ((InT.kids t).flatMap (Z0e d)) k v
  rw[Y5s (Z0e d) _ hj,Z6a (Z0e d) (InT.kids t) hj,X0d a1 a2,hce,hl]
 ·have hx':x∈insL (InT.keys t) _ mid++(insL ((InT.kids t).set _ c') _ r).flatMap (allT d):=hx
  show x=k∨x∈InT.keys t++(InT.kids t).flatMap (allT d)
  have hin:∀y,y=k∨y∈allT d c→y=k∨y∈InT.keys t++(InT.kids t).flatMap (allT d):=fun y q=>by
   rcases q with q | q
   ·exact .inl q
   ·exact .inr (List.mem_append_right _ (List.mem_flatMap.2 ⟨c,hcm,q⟩))
  rw[List.mem_append,List.mem_flatMap]at hx'
  rcases hx' with q | ⟨e,q1,q2⟩
  ·rcases Z7t q with rfl | q
   ·exact hin _ hR.key
   ·exact .inr (List.mem_append_left _ q)
  ·rcases hkids e q1 with rfl | rfl | ⟨i,hi,hne⟩
   ·exact hin _ (h.all x q2)
   ·exact hin _ (hR.all x q2)
   ·exact .inr (List.mem_append_right _ (List.mem_flatMap.2 ⟨e,List.mem_of_getElem? hi,q2⟩))
 ·have hx':x∈insL (InT.keys t) _ mid++(insL ((InT.kids t).set _ c') _ r).flatMap (sepT d):=hx
  rw[List.mem_append,List.mem_flatMap]at hx'
  rcases hx' with q | ⟨e,q1,q2⟩
  ·rcases Z7t q with rfl | q
   ·refine .inr ⟨z,(h.all z hz).imp_right (fun q=>List.mem_append_right _ (List.mem_flatMap.2 ⟨c,hcm,q⟩)),hR.below z hz⟩
   ·exact .inl (List.mem_append_left _ q)
  ·rcases hkids e q1 with rfl | rfl | ⟨i,hi,hne⟩
   ·exact U0j hcm (h.sep x q2)
   ·exact U0j hcm (hR.sep x q2)
   ·exact .inl (List.mem_append_right _ (List.mem_flatMap.2 ⟨e,List.mem_of_getElem? hi,q2⟩))
theorem V8v{d:Nat}{S S1 S':StoreD}{t t':TT (d+1)}{k v:ByteArray}{c c' r:TT d}{mid:ByteArray}{o:Option (ByteArray×TT (d+1))}{F1:List Nat}(hf:Fm S)(hon:onT S (d+1) t)(hok:okT (d+1) t)(hk:Z3g k)(hnd:(Z0a (d+1) t).Nodup)(hc:(InT.kids t)[Z0g (InT.keys t) k]? =some c)(h:PutL d S c k v S1 c' (some (mid,r)) F1)
 (hcut:V3v d S1 (InT.mk (InT.at_ t) (insL (InT.keys t) (Z0g (InT.keys t) k) mid) (insL ((InT.kids t).set (Z0g (InT.keys t) k) c') (Z0g (InT.keys t) k+1) r)) S' t' o):
  ∃F,PutL (d+1) S t k v S' t' o F:=by
 obtain⟨L,hL,g1,g2,g3,g4,g5,g6,g7,g8,g9⟩:=Y8s hf hon hok hk hnd hc h
 rw[←hL]at hcut
 have hLa:InT.at_ L=InT.at_ t:=by rw[hL]
 have hf1:=hf.stp h.stp (fun b q=>by cases q)
 obtain⟨F2,q⟩:=V3h hcut hf1 g1 g2 g3 g4 g5
 obtain⟨hj,hce⟩:=List.getElem?_eq_some_iff.1 hc
 have hcm:c∈InT.kids t:=hce▸List.getElem_mem hj
 have hpg:∀b∈Z0a d c,b∈Z0a (d+1) t:=fun b hb=>by
  show b∈InT.at_ t::_
  exact List.mem_cons_of_mem _ (List.mem_flatMap.2 ⟨c,hcm,hb⟩)
 have hfr:∀b∈F2,Z0y S b=false∧b∉F1:=fun b hb=>by
  have h1:=(q.fresh b hb).1
  have h2:=h.stp.used b
  constructor
  ·cases e:Z0y S b with
   | false=>rfl
   | true=>rw[h2.2 ⟨.inl e,by simp⟩]at h1;cases h1
  ·intro e
   rw[h2.2 ⟨.inr e,by simp⟩]at h1;cases h1
 have hst:=h.stp.trans (Q:=fun b=>b=InT.at_ L) q.stp (fun b _=>by simp) (fun b r=> .inr (.inr r))
 refine⟨F1++F2,⟨?_,?_,fun b hb=> ?_,?_,q.at_.trans hLa,q.on,q.ok,?_,?_,fun x hx=>g8 x (q.all x hx),fun x hx=>g9 x (q.sep x hx),fun m r' e=> ?_⟩⟩
 ·refine hst.mono (fun b r=> ?_)
  rcases r with r | r
  ·exact hpg b r
  ·rw[r,hLa];show _∈InT.at_ t::_;exact List.mem_cons_self
 ·rw[List.nodup_append]
  exact⟨h.nd,q.nd,fun a ha b hb e=>by subst e;exact(hfr a hb).2 ha⟩
 ·rcases List.mem_append.1 hb with hb | hb
  ·exact h.fresh b hb
  ·have:=q.fresh b hb
   rw[h.stp.head]at this
   exact⟨(hfr b hb).1,this.2⟩
 ·rw[List.length_append];have:=h.len;have:=q.len;omega
 ·refine q.pages.trans ?_
  rw[←List.append_assoc]
  exact g6.append_right F2
 ·rw[q.list,g7]
 ·have:=q.right m r' e
  exact⟨this.on,this.ok,g8 _ this.key,this.below,this.above,fun x hx=>g8 x (this.all x hx),this.some,fun x hx=>g9 x (this.sep x hx),this.sabove⟩
theorem Z4z:∀(d:Nat) {S S':StoreD} {t t':TT d} {k v:ByteArray} {o:Option (ByteArray×TT d)},PutR d S t k v S' t' o→Fm S→onT S d t→okT d t→Z3g k→v.size≤80→(Z0a d t).Nodup→∃F,PutL d S t k v S' t' o F
 | 0,S,S',t,t',k,v,o,h,hf,hon,hok,hk,hv,hnd=>by
   obtain⟨F,q⟩:=V3i h hf (PageN.given hon) (X3q hok hk hv) (Y9m hon hok hk hv)
   have hall:∀x,x∈allT 0 (Z6i t k v)→x=k∨x∈allT 0 t:=fun x hx=>Y7e.1 x hx
   refine⟨F,⟨q.stp.mono (fun b r=>by rw[r];show _∈ [_];exact List.mem_cons_self),q.nd,q.fresh,q.len,q.at_,q.on,q.ok,q.pages,q.list.trans (Y5l hok k v),fun x hx=>hall x (q.all x hx),(fun x hx=>by cases t';cases hx),fun m r e=> ?_⟩⟩
   have:=q.right m r e
   exact⟨this.on,this.ok,hall _ this.key,this.below,this.above,fun x hx=>hall x (this.all x hx),this.some,(fun x hx=>by cases hx),this.sabove⟩
 | d+1,S,S',t,t',k,v,o,h,hf,hon,hok,hk,hv,hnd=>by
   obtain⟨c,hc,S1,c',o1,h1,h2⟩:=h
   have hcm:c∈InT.kids t:=List.mem_of_getElem? hc
   obtain⟨F1,q⟩:=Z4z d h1 hf (hon.2 c hcm) (hok.2.2.2.1 c hcm) hk hv ((Z1c hnd).1 c hcm).2
   cases o1 with
   | none=>
     obtain⟨rfl,rfl,rfl⟩:=h2
     exact⟨F1,V8w hf hon hok hk hnd hc q⟩
   | some x=>
     obtain⟨mid,r⟩:=x
     exact V8v hf hon hok hk hnd hc q h2
end Go.Proofs.YtmiolpfanlpfnaaGreat
