/- A tree takes a record, at any depth: plain. No conditions. -/
import Derived.Test.YtohaldfnmgcofaaGreatW24
set_option linter.unusedSimpArgs false
set_option linter.unusedVariables false
namespace Go.Proofs.YtohaldfnmgcofaaGreat
open Go.RowKit
def UpR(d:Nat)(S1:StoreD)(t:TT (d+1))(j:Nat)(c':TT d)(o1:Option (ByteArray×TT d))(S':StoreD)(t':TT (d+1))(o:Option (ByteArray×TT (d+1))):Prop:=match o1 with
 | none=>S'=S1/\t'=InT.mk (InT.at_ t) (InT.keys t) ((InT.kids t).set j c')/\o=none
 | some x=>V4m d S1 (InT.mk (InT.at_ t) (insL (InT.keys t) j x.1) (insL ((InT.kids t).set j c') (j+1) x.2)) S' t' o
def PutR:(d:Nat)->StoreD->TT d->ByteArray->ByteArray->StoreD->TT d->Option (ByteArray×TT d)->Prop
 | 0,S,t,k,v,S',t',o=>U2a S (Z6r t k v) S' t' o
 | d+1,S,t,k,v,S',t',o=>∃c,(InT.kids t)[Z0g (InT.keys t) k]? =some c/\∃S1 c' o1,PutR d S c k v S1 c' o1/\UpR d S1 t (Z0g (InT.keys t) k) c' o1 S' t' o
def Y2f(ks:List ByteArray)(j:Nat)(x:ByteArray):Prop:=∀(i:Nat) (s:ByteArray),ks[i]? =some s->(i<j->ltB x s=false)/\(j<=i->ltB x s=true)
theorem Y0p{ks:List ByteArray}(h:Z3k ks)(k:ByteArray):Y2f ks (Z0g ks k) k:=fun i s hs=>by obtain⟨hi,rfl⟩:=aC.1 hs;exact⟨fun q=>X5e h k hi q,fun q=>X5f h k hi q⟩
theorem X9x{d:Nat}{ks:List ByteArray}{ts:List (TT d)}{j:Nat}{c':TT d}(h:SepT (allT d) ks ts)(hc:∀x∈allT d c',Y2f ks j x):SepT (allT d) ks (ts.set j c'):=by
 rw[Z2g]at h ⊢;intro i c hi x hx;rw[List.getElem?_set]at hi;split at hi
 ·rename_i e
  subst e;split at hi
  ·injection hi with hi;subst hi;exact hc x hx
  ·cases hi
 ·exact h i c hi x hx
theorem V5l{ks:List ByteArray}{j:Nat}{mid:ByteArray}(h:Z3k ks)(hj:j<=ks.length)(hlo:∀i s,ks[i]? =some s->i<j->ltB s mid=true)(hhi:∀i s,ks[i]? =some s->j<=i->ltB mid s=true):Z3k (insL ks j mid):=by
 unfold Z3k insL;rw[List.pairwise_append,List.pairwise_cons];have h1:∀x∈ks.take j,ltB x mid=true:=fun x hx=>by obtain⟨i,hi,rfl⟩:=List.mem_take_iff_getElem.1 hx;exact hlo i _ (aB (by omega)) (by omega)
 have h2:∀x∈ks.drop j,ltB mid x=true:=fun x hx=>by obtain⟨i,hi,rfl⟩:=List.mem_drop_iff_getElem.1 hx;exact hhi (j+i) _ (aB (by omega)) (by omega)
 refine⟨h.sublist (List.take_sublist _ _),⟨h2,h.sublist (List.drop_sublist _ _)⟩,fun x hx y hy=> ?_⟩;rcases List.mem_cons.1 hy with rfl | hy
 ·exact h1 x hx
 ·exact Z1o (h1 x hx) (h2 y hy)
theorem V9t{d:Nat}{ks:List ByteArray}{ts:List (TT d)}{j:Nat}{c' r:TT d}{mid:ByteArray}(h:SepT (allT d) ks ts)(hl:ts.length=ks.length+1)(hr:Z3k ks)(hj:j<=ks.length)(hc:∀x∈allT d c',Y2f ks j x)(hd:∀x∈allT d r,Y2f ks j x)
 (hlo:∀i s,ks[i]? =some s->i<j->ltB s mid=true)(hhi:∀i s,ks[i]? =some s->j<=i->ltB mid s=true)(hb:∀x∈allT d c',ltB x mid=true)(ha:∀x∈allT d r,ltB x mid=false):SepT (allT d) (insL ks j mid) (insL (ts.set j c') (j+1) r):=by
 have h':=Z2g.1 h;rw[Z2g];intro i c hi x hx p s hs;rw[Y4k ts (by omega)]at hi;rw[Y8i _ _ hj]at hs;have hks:∀(q:Nat) (u:ByteArray),ks[q]? =some u->q<ks.length:=fun q u hq=>(aC.1 hq).1;by_cases e1:i<j
 ·rw[if_pos e1]at hi;have hw:=h' i c hi x hx;by_cases f1:p<j
  ·rw[if_pos f1]at hs;exact hw p s hs
  ·rw[if_neg f1]at hs;have hx1:ltB x mid=true:=by obtain⟨u,hu⟩:∃u,ks[i]? =some u:=⟨_,aB (by omega:i<ks.length)⟩;exact Z1o ((hw i u hu).2 (aF _)) (hlo i u hu e1)
   by_cases f2:p=j
   ·rw[if_pos f2]at hs;injection hs with hs;subst hs;exact⟨fun q=>by omega,fun _=>hx1⟩
   ·rw[if_neg f2]at hs;have:=hw (p-1) s hs;exact⟨fun q=>by omega,fun q=>this.2 (by omega)⟩
 ·rw[if_neg e1]at hi;by_cases e2:i=j
  ·rw[if_pos e2]at hi;injection hi with hi;subst hi;have hw:=hc x hx;by_cases f1:p<j
   ·rw[if_pos f1]at hs;have:=hw p s hs;exact⟨fun q=>this.1 f1,fun q=>by omega⟩
   ·rw[if_neg f1]at hs;by_cases f2:p=j
    ·rw[if_pos f2]at hs;injection hs with hs;subst hs;exact⟨fun q=>by omega,fun _=>hb x hx⟩
    ·rw[if_neg f2]at hs;have:=hw (p-1) s hs;exact⟨fun q=>by omega,fun q=>this.2 (by omega)⟩
  ·rw[if_neg e2]at hi;by_cases e3:i=j+1
   ·rw[if_pos e3]at hi;injection hi with hi;subst hi;have hw:=hd x hx;by_cases f1:p<j
    ·rw[if_pos f1]at hs;have:=hw p s hs;exact⟨fun q=>this.1 f1,fun q=>by omega⟩
    ·rw[if_neg f1]at hs;by_cases f2:p=j
     ·rw[if_pos f2]at hs;injection hs with hs;subst hs;exact⟨fun _=>ha x hx,fun q=>by omega⟩
     ·rw[if_neg f2]at hs;have:=hw (p-1) s hs;exact⟨fun q=>by omega,fun q=>this.2 (by omega)⟩
   ·rw[if_neg e3]at hi;have hw:=h' (i-1) c hi x hx;have hil:i-1<ts.length:=(aC.1 hi).1;by_cases f1:p<j
    ·rw[if_pos f1]at hs;have:=hw p s hs;exact⟨fun q=>this.1 (by omega),fun q=>by omega⟩
    ·rw[if_neg f1]at hs;by_cases f2:p=j
     ·rw[if_pos f2]at hs;injection hs with hs;subst hs;refine⟨fun _=> ?_,fun q=>by omega⟩;obtain⟨u,hu⟩:∃u,ks[j]? =some u:=⟨_,aB (by omega:j<ks.length)⟩;have g1:=(hw j u hu).1 (by omega);exact le_of_lt (Z3q (hhi j u hu (aF _)) g1)
     ·rw[if_neg f2]at hs;have:=hw (p-1) s hs;exact⟨fun q=>this.1 (by omega),fun q=>this.2 (by omega)⟩
def BsT(d:Nat)(t:TT d)(k x:ByteArray):Prop:=x∈sepT d t\/∃z,(z=k\/z∈allT d t)/\ltB z x=true
theorem Y8p{d:Nat}{ks:List ByteArray}{ts:List (TT d)}{j:Nat}{c:TT d}{k x:ByteArray}(h:StrT (sepT d) ks ts)(hc:ts[j]? =some c)(hw:∀x,(x=k\/x∈allT d c)->Y2f ks j x)(hx:BsT d c k x):∀(i:Nat) (s:ByteArray),ks[i]? =some s->i<j->ltB s x=true:=fun i s hs hi=>by
 rcases hx with q | ⟨z,q,hz⟩
 ·exact h j c hc x q i s hs hi
 ·exact Y4j ((hw z q i s hs).1 hi) hz
theorem X9q{d:Nat}{ks:List ByteArray}{ts:List (TT d)}{j:Nat}{c':TT d}(h:StrT (sepT d) ks ts)(hc:∀x∈sepT d c',∀(i:Nat) (s:ByteArray),ks[i]? =some s->i<j->ltB s x=true):StrT (sepT d) ks (ts.set j c'):=by
 intro i c hi x hx;rw[List.getElem?_set]at hi;split at hi
 ·rename_i e
  subst e;split at hi
  ·injection hi with hi;subst hi;exact hc x hx
  ·cases hi
 ·exact h i c hi x hx
theorem V9s{d:Nat}{ks:List ByteArray}{ts:List (TT d)}{j:Nat}{c' r:TT d}{mid:ByteArray}(h:StrT (sepT d) ks ts)(hl:ts.length=ks.length+1)(hj:j<=ks.length)(hc:∀x∈sepT d c',∀(i:Nat) (s:ByteArray),ks[i]? =some s->i<j->ltB s x=true)(hd:∀x∈sepT d r,∀(i:Nat) (s:ByteArray),ks[i]? =some s->i<j->ltB s x=true)
 (hhi:∀i s,ks[i]? =some s->j<=i->ltB mid s=true)(ha:∀x∈sepT d r,ltB mid x=true):StrT (sepT d) (insL ks j mid) (insL (ts.set j c') (j+1) r):=by
 intro i c hi x hx p s hs hpi;rw[Y4k ts (by omega)]at hi;rw[Y8i _ _ hj]at hs;by_cases e1:i<j
 ·rw[if_pos e1]at hi;rw[if_pos (by omega)]at hs;exact h i c hi x hx p s hs hpi
 ·rw[if_neg e1]at hi;by_cases e2:i=j
  ·rw[if_pos e2]at hi;injection hi with hi;subst hi;rw[if_pos (by omega)]at hs;exact hc x hx p s hs (by omega)
  ·rw[if_neg e2]at hi;by_cases e3:i=j+1
   ·rw[if_pos e3]at hi;injection hi with hi;subst hi;by_cases f1:p<j
    ·rw[if_pos f1]at hs;exact hd x hx p s hs f1
    ·rw[if_neg f1,if_pos (by omega)]at hs;injection hs with hs;subst hs;exact ha x hx
   ·rw[if_neg e3]at hi;have hil:i-1<ts.length:=(aC.1 hi).1;by_cases f1:p<j
    ·rw[if_pos f1]at hs;exact h (i-1) c hi x hx p s hs (by omega)
    ·rw[if_neg f1]at hs;by_cases f2:p=j
     ·rw[if_pos f2]at hs;injection hs with hs;subst hs;obtain⟨u,hu⟩:∃u,ks[j]? =some u:=⟨_,aB (by omega:j<ks.length)⟩;exact Z1o (hhi j u hu (aF _)) (h (i-1) c hi x hx j u hu (by omega))
     ·rw[if_neg f2]at hs;exact h (i-1) c hi x hx (p-1) s hs (by omega)
theorem Z5v{d:Nat}{ts:List (TT d)}{j:Nat}{c c':TT d}(hj:ts[j]? =some c)(ha:atT d c'=atT d c):(ts.set j c').map (fun c=>(atT d c:Int))=ts.map (fun c=>(atT d c:Int)):=by
 obtain⟨h,rfl⟩:=aC.1 hj;rw[List.map_set,ha];apply List.ext_getElem
 ·simp
 ·intro i h1 h2;rw[List.getElem_set];split
  ·rename_i e;subst e;simp
  ·rfl
theorem Z4s{α:Type}{l:List α}{i:Nat}{x y:α}(h:y∈l.set i x):y=x\/y∈l:=(List.mem_or_eq_of_mem_set h).symm
theorem Y3x{d:Nat}{t:TT (d+1)}{j:Nat}{c:TT d}(hc:(InT.kids t)[j]? =some c):Z0a (d+1) t=InT.at_ t::(((InT.kids t).take j).flatMap (Z0a d)++Z0a d c++((InT.kids t).drop (j+1)).flatMap (Z0a d)):=by obtain⟨h,rfl⟩:=aC.1 hc;show InT.at_ t::_=_;rw[Z6k (Z0a d) (InT.kids t) h]
theorem Z1c{d:Nat}{t:TT (d+1)}(h:(Z0a (d+1) t).Nodup):(∀c∈InT.kids t,InT.at_ t∉Z0a d c/\(Z0a d c).Nodup)/\∀(i j:Nat) (c e:TT d),(InT.kids t)[i]? =some c->(InT.kids t)[j]? =some e->i≠j->∀b∈Z0a d c,b∉Z0a d e:=by
 have h':(InT.at_ t::(InT.kids t).flatMap (Z0a d)).Nodup:=h;rw[List.nodup_cons]at h';obtain⟨h1,h2⟩:=h';rw[List.mem_flatMap]at h1;unfold List.Nodup at h2;rw[List.pairwise_flatMap]at h2;refine⟨fun c hc=>⟨fun q=>h1 ⟨c,hc,q⟩,h2.1 c hc⟩,fun i j c e hc he hij b hb hb'=> ?_⟩;obtain⟨hi,rfl⟩:=aC.1 hc;obtain⟨hj,rfl⟩:=aC.1 he;have hp:=List.pairwise_iff_getElem.1 h2.2;rcases Nat.lt_or_gt_of_ne hij with q | q
 ·exact hp i j hi hj q b hb b hb' rfl
 ·exact hp j i hj hi q b hb' b hb rfl
theorem Y8e{S:StoreD}{d:Nat}{ts:List (TT d)}(h:∀c∈ts,onT S d c)(hm:S.head.pages<=1024):∀c∈ts.map (fun c=>(atT d c:Int)),0<=c/\c<65536:=by intro c hc;obtain⟨x,hx,rfl⟩:=List.mem_map.1 hc;have:=(Z0k d x (h x hx) _ (Z0q d x)).2.1;exact⟨by omega,by omega⟩
abbrev PutL(d:Nat)(S:StoreD)(t:TT d)(k v:ByteArray)(S':StoreD)(t':TT d)(o:Option (ByteArray×TT d))(F:List Nat):Prop:=
 StepL d (d+1) S (fun b=>b∈Z0a d t) (fun x=>x=k\/x∈allT d t) (BsT d t k) (Z0a d t) (atT d t) (Z6t (Z0e d t) k v) S' t' o F
theorem U0y{d:Nat}{t:TT (d+1)}{c:TT d}(hc:c∈InT.kids t){k x:ByteArray}(h:BsT d c k x):BsT (d+1) t k x:=by
 rcases h with q | ⟨z,q,hz⟩
 ·exact .inl (List.mem_append_right _ (List.mem_flatMap.2 ⟨c,hc,q⟩))
 ·exact .inr ⟨z,q.imp_right (fun q=>List.mem_append_right _ (List.mem_flatMap.2 ⟨c,hc,q⟩)),hz⟩
theorem Y8g{d:Nat}{t:TT d}(h:okT d t){k:ByteArray}(hk:Z3a k):∀x,x=k\/x∈allT d t->Z3a x:=fun x q=>q.elim (fun e=>e▸hk) (fun q=>Y8t d t h x q)
theorem V9l{d:Nat}{S S1:StoreD}{t:TT (d+1)}{k v:ByteArray}{c c':TT d}{F1:List Nat}(hf:Fm S)(hon:onT S (d+1) t)(hok:okT (d+1) t)(hk:Z3a k)(hnd:(Z0a (d+1) t).Nodup)(hc:(InT.kids t)[Z0g (InT.keys t) k]? =some c)(h:PutL d S c k v S1 c' none F1):
  PutL (d+1) S t k v S1 (InT.mk (InT.at_ t) (InT.keys t) ((InT.kids t).set (Z0g (InT.keys t) k) c')) none F1:=by
 obtain⟨hj,hce⟩:=aC.1 hc;have hcm:c∈InT.kids t:=hce▸List.getElem_mem hj;obtain⟨n1,n2⟩:=Z1c hnd;obtain⟨k1,k2,k3,k4,k5,k6⟩:=hok;have hw:∀x∈allT d c',Y2f (InT.keys t) (Z0g (InT.keys t) k) x:=fun x hx=>by
  rcases h.all x hx with rfl | q
  ·exact Y0p k1 _
  ·exact Z2g.1 k5 _ _ hc x q
 have hwc:∀x,(x=k\/x∈allT d c)->Y2f (InT.keys t) (Z0g (InT.keys t) k) x:=fun x q=>by
  rcases q with rfl | q
  ·exact Y0p k1 _
  ·exact Z2g.1 k5 _ _ hc x q
 have hpg:∀b∈Z0a d c,b∈Z0a (d+1) t:=fun b hb=>by show b∈InT.at_ t::_;exact List.mem_cons_of_mem _ (List.mem_flatMap.2 ⟨c,hcm,hb⟩)
 have hunF:∀b,Z0z S b=true->b∉F1:=fun b hb q=>by rw[(h.fresh b q).1]at hb;cases hb
 refine⟨h.stp.mono hpg,h.nd,h.fresh,Nat.le_succ_of_le h.len,rfl,⟨?_,fun e he=> ?_⟩,⟨k1,by show((InT.kids t).set _ _).length=_;rw[List.length_set];exact k2,k3,fun e he=> ?_,X9x k5 hw,X9q k6 (fun x hx=>Y8p k6 hc hwc (h.sep x hx))⟩,?_,?_,fun x hx=> ?_,fun x hx=> ?_,(fun mid r q=>by cases q)⟩
 ·have e1:Z0c (d+1) (InT.mk (InT.at_ t) (InT.keys t) ((InT.kids t).set (Z0g (InT.keys t) k) c'))=Z0c (d+1) t:=by show NodeD.mk false _ [] _=NodeD.mk false _ [] _;rw[Z5v hc h.at_]
  rw[e1];exact hon.1.stp h.stp (n1 c hcm).1 (hunF _ hon.1.given.2.2) (by simp)
 ·rcases Z4s he with rfl | he
  ·exact h.on
  ·obtain⟨i,hi,rfl⟩:=List.mem_iff_getElem.1 he;by_cases e1:i=Z0g (InT.keys t) k
   ·subst e1;obtain⟨q,hq,he'⟩:=List.mem_iff_getElem.1 ‹_∈(InT.kids t).set _ _›;rw[List.getElem_set]at he';by_cases e2:Z0g (InT.keys t) k=q
    ·rw[if_pos e2]at he';rw[<-he'];exact h.on
    ·rw[if_neg e2]at he';rw[<-he'];have hq2:q<(InT.kids t).length:=by rw[List.length_set]at hq;exact hq
     refine Z7h h.stp d _ (hon.2 _ (List.getElem_mem hq2)) (fun b q'=>⟨n2 _ _ _ _ (aB hq2) hc (fun e=>e2 e.symm) b q',hunF b (Z0k d _ (hon.2 _ (List.getElem_mem hq2)) b q').2.2,by simp⟩)
   ·refine Z7h h.stp d _ (hon.2 _ he) (fun b q'=>⟨n2 _ _ _ _ (aB hi) hc e1 b q',hunF b (Z0k d _ (hon.2 _ he) b q').2.2,by simp⟩)
 ·rcases Z4s he with rfl | he
  ·exact h.ok
  ·exact k4 e he
 ·show((InT.at_ t::((InT.kids t).set _ c').flatMap (Z0a d))++ []).Perm (Z0a (d+1) t++F1);rw[Y3x hc,List.append_nil,Z7n (Z0a d) _ hj,List.cons_append,List.perm_cons];have hp:(Z0a d c').Perm (Z0a d c++F1):=by have:=h.pages;rwa [Z8n,List.append_nil]at this
  generalize ((InT.kids t).take (Z0g (InT.keys t) k)).flatMap (Z0a d)=A at *;generalize ((InT.kids t).drop (Z0g (InT.keys t) k+1)).flatMap (Z0a d)=C at *;have p1:(A++Z0a d c'++C).Perm (A++(Z0a d c++F1)++C):=(hp.append_left A).append_right C;refine p1.trans ?_;rw[aG,aG,aG,aG];exact(List.perm_append_comm.append_left _).append_left _
 ·have hl:Z0e d c'=Z6t (Z0e d c) k v:=by have:=h.list;rwa [X7i,List.append_nil]at this
  obtain⟨a1,a2⟩:=Y6x (t:=t) ⟨k1,k2,k3,k4,k5,k6⟩ k;show((InT.kids t).set _ c').flatMap (Z0e d)++ []=Z6t ((InT.kids t).flatMap (Z0e d)) k v;rw[List.append_nil,Z7n (Z0e d) _ hj,Z6k (Z0e d) (InT.kids t) hj,X0n a1 a2,hce,hl]
 ·have hx':x∈InT.keys t++((InT.kids t).set _ c').flatMap (allT d):=hx;show x=k\/x∈InT.keys t++(InT.kids t).flatMap (allT d);rw[List.mem_append,List.mem_flatMap]at hx' ⊢;rcases hx' with q | ⟨e,q1,q2⟩
  ·exact .inr (.inl q)
  ·rcases Z4s q1 with rfl | q1
   ·rcases h.all x q2 with q | q
    ·exact .inl q
    ·exact .inr (.inr ⟨c,hcm,q⟩)
   ·exact .inr (.inr ⟨e,q1,q2⟩)
 ·have hx':x∈InT.keys t++((InT.kids t).set _ c').flatMap (sepT d):=hx;rw[List.mem_append,List.mem_flatMap]at hx';rcases hx' with q | ⟨e,q1,q2⟩
  ·exact .inl (List.mem_append_left _ q)
  ·rcases Z4s q1 with rfl | q1
   ·exact U0y hcm (h.sep x q2)
   ·exact .inl (List.mem_append_right _ (List.mem_flatMap.2 ⟨e,q1,q2⟩))
theorem Z8f{d:Nat}(t:TT (d+1)):Z0m (Z0c (d+1) t)=2+2*(InT.kids t).length+Z0n (InT.keys t):=by unfold Z0m;show 2+2*((InT.kids t).map _).length+Z0n (InT.keys t)+Z0n []=_;rw[List.length_map];rfl
theorem Y9c{d:Nat}{S S1:StoreD}{t:TT (d+1)}{k v:ByteArray}{c c' r:TT d}{mid:ByteArray}{F1:List Nat}(hf:Fm S)(hon:onT S (d+1) t)(hok:okT (d+1) t)(hk:Z3a k)(hnd:(Z0a (d+1) t).Nodup)(hc:(InT.kids t)[Z0g (InT.keys t) k]? =some c)(h:PutL d S c k v S1 c' (some (mid,r)) F1):
  ∃L:TT (d+1),L=InT.mk (InT.at_ t) (insL (InT.keys t) (Z0g (InT.keys t) k) mid) (insL ((InT.kids t).set (Z0g (InT.keys t) k) c') (Z0g (InT.keys t) k+1) r)/\Z0r S1 (InT.at_ L)/\okT (d+1) L/\NodeFit (Z0c (d+1) L)/\(∀e∈InT.kids L,onT S1 d e)/\(∀e∈InT.kids L,InT.at_ L∉Z0a d e)/\
   (Z0a (d+1) L).Perm (Z0a (d+1) t++F1)/\Z0e (d+1) L=Z6t (Z0e (d+1) t) k v/\(∀x∈allT (d+1) L,x=k\/x∈allT (d+1) t)/\∀x∈sepT (d+1) L,BsT (d+1) t k x:=by
 obtain⟨hj,hce⟩:=aC.1 hc;have hcm:c∈InT.kids t:=hce▸List.getElem_mem hj;obtain⟨n1,n2⟩:=Z1c hnd;have hok':=hok;obtain⟨k1,k2,k3,k4,k5,k6⟩:=hok;have hjk:=Z4o (k:=k) k1;have hR:=h.right mid r rfl;have hwc:∀x,(x=k\/x∈allT d c)->Y2f (InT.keys t) (Z0g (InT.keys t) k) x:=fun x q=>by
  rcases q with rfl | q
  ·exact Y0p k1 _
  ·exact Z2g.1 k5 _ _ hc x q
 have hunF:∀b,Z0z S b=true->b∉F1:=fun b hb q=>by rw[(h.fresh b q).1]at hb;cases hb
 obtain⟨z,hz⟩:=hR.some;have hlo:∀i s,(InT.keys t)[i]? =some s->i<Z0g (InT.keys t) k->ltB s mid=true:=fun i s hs hi=>Y4j ((hwc z (h.all z hz) i s hs).1 hi) (hR.below z hz);have hhi:∀i s,(InT.keys t)[i]? =some s->Z0g (InT.keys t) k<=i->ltB mid s=true:=fun i s hs hi=>(hwc mid hR.key i s hs).2 hi;have hmk:Z3a mid:=Y8g (k4 c hcm) hk mid hR.key;have hold:∀(i:Nat) (e:TT d),(InT.kids t)[i]? =some e->i≠Z0g (InT.keys t) k->onT S1 d e/\e∈InT.kids t:=fun i e he hne=>by have hem:e∈InT.kids t:=List.mem_of_getElem? he;refine⟨Z7h h.stp d e (hon.2 e hem) (fun b q'=>⟨n2 _ _ _ _ he hc hne b q',hunF b (Z0k d e (hon.2 e hem) b q').2.2,by simp⟩),hem⟩
 have hkids:∀e,e∈insL ((InT.kids t).set (Z0g (InT.keys t) k) c') (Z0g (InT.keys t) k+1) r->e=c'\/e=r\/∃i,(InT.kids t)[i]? =some e/\i≠Z0g (InT.keys t) k:=fun e he=>by
  obtain⟨i,hi⟩:=List.mem_iff_getElem?.1 he;rw[Y4k _ hj]at hi;by_cases e1:i<Z0g (InT.keys t) k
  ·rw[if_pos e1]at hi;exact .inr (.inr ⟨i,hi,by omega⟩)
  ·rw[if_neg e1]at hi;by_cases e2:i=Z0g (InT.keys t) k
   ·rw[if_pos e2]at hi;injection hi with hi;exact .inl hi.symm
   ·rw[if_neg e2]at hi;by_cases e3:i=Z0g (InT.keys t) k+1
    ·rw[if_pos e3]at hi;injection hi with hi;exact .inr (.inl hi.symm)
    ·rw[if_neg e3]at hi;exact .inr (.inr ⟨i-1,hi,by omega⟩)
 have hpp:(Z0a d c'++Z0a d r).Perm (Z0a d c++F1):=h.pages;have hmem:∀b,b∈Z0a d c'\/b∈Z0a d r->b∈Z0a d c\/b∈F1:=fun b q=>List.mem_append.1 (hpp.mem_iff.1 (List.mem_append.2 q));have honK:∀e∈insL ((InT.kids t).set (Z0g (InT.keys t) k) c') (Z0g (InT.keys t) k+1) r,onT S1 d e:=fun e he=>by
  rcases hkids e he with rfl | rfl | ⟨i,hi,hne⟩
  ·exact h.on
  ·exact hR.on
  ·exact(hold i e hi hne).1
 have hokL:okT (d+1) (InT.mk (InT.at_ t) (insL (InT.keys t) (Z0g (InT.keys t) k) mid) (insL ((InT.kids t).set (Z0g (InT.keys t) k) c') (Z0g (InT.keys t) k+1) r)):=by
  refine⟨V5l k1 hjk hlo hhi,?_,fun x hx=> ?_,fun e he=> ?_,V9t k5 k2 k1 hjk (fun x hx=>hwc x (h.all x hx)) (fun x hx=>hwc x (hR.all x hx)) hlo hhi hR.below hR.above,V9s k6 k2 hjk (fun x hx=>Y8p k6 hc hwc (h.sep x hx)) (fun x hx=>Y8p k6 hc hwc (hR.sep x hx)) hhi hR.sabove⟩
  ·show(insL ((InT.kids t).set _ c') _ r).length=(insL (InT.keys t) _ mid).length+1;rw[Z1b,Z1b,List.length_set,k2]
  ·rcases Z8c hx with rfl | hx
   ·exact hmk
   ·exact k3 x hx
  ·rcases hkids e he with rfl | rfl | ⟨i,hi,hne⟩
   ·exact h.ok
   ·exact hR.ok
   ·exact k4 e (List.mem_of_getElem? hi)
 have hat:Z0r S1 (InT.at_ t):=h.stp.given hon.1.given (by simp);have hsz:=hon.1.small;refine⟨_,rfl,hat,hokL,⟨⟨fun x hx=> ?_,fun x hx=>by simp[Z0c]at hx,?_,?_,(fun q=>by cases q),fun _=>⟨rfl,?_⟩⟩,fun x hx=>(hokL.2.2.1 x hx).2,fun x hx=>by simp[Z0c]at hx,?_⟩,honK,fun e he=> ?_,?_,?_,fun x hx=> ?_,fun x hx=> ?_⟩
 ·have:=(hokL.2.2.1 x hx).2;omega
 ·exact Y8e honK (by rw[h.stp.head];exact hf.most)
 ·have h9:=Z7y (Z0c (d+1) t);have h8:(Z0c (d+1) t).keys.length=(InT.keys t).length:=rfl;show(insL (InT.keys t) _ mid).length<=255;rw[Z1b];omega
 ·show((insL ((InT.kids t).set _ c') _ r).map _).length=(insL (InT.keys t) _ mid).length+1;rw[List.length_map,Z1b,Z1b,List.length_set,k2]
 ·rw[Z8f]at hsz;refine Nat.le_trans (Nat.le_of_eq (Z8f (d:=d) (InT.mk (InT.at_ t) (insL (InT.keys t) (Z0g (InT.keys t) k) mid) (insL ((InT.kids t).set (Z0g (InT.keys t) k) c') (Z0g (InT.keys t) k+1) r)))) ?_;show 2+2*(insL ((InT.kids t).set _ c') _ r).length+Z0n (insL (InT.keys t) _ mid)<=291;rw[Z1b,Y4l,List.length_set];have:=hmk.2;omega
 ·rcases hkids e he with rfl | rfl | ⟨i,hi,hne⟩
  ·intro q;rcases hmem _ (.inl q)with r | r
   ·exact(n1 c hcm).1 r
   ·exact hunF _ hon.1.given.2.2 r
  ·intro q;rcases hmem _ (.inr q)with r | r
   ·exact(n1 c hcm).1 r
   ·exact hunF _ hon.1.given.2.2 r
  ·exact(n1 e (List.mem_of_getElem? hi)).1
 ·show(InT.at_ t::(insL ((InT.kids t).set _ c') _ r).flatMap (Z0a d)).Perm (Z0a (d+1) t++F1);rw[Y3x hc,Y6i (Z0a d) _ hj,List.cons_append,List.perm_cons];generalize ((InT.kids t).take (Z0g (InT.keys t) k)).flatMap (Z0a d)=A at *;generalize ((InT.kids t).drop (Z0g (InT.keys t) k+1)).flatMap (Z0a d)=C at *;refine((hpp.append_left A).append_right C).trans ?_;rw[aG,aG,aG,aG];exact(List.perm_append_comm.append_left _).append_left _
 ·have hl:Z0e d c'++Z0e d r=Z6t (Z0e d c) k v:=h.list;obtain⟨a1,a2⟩:=Y6x (t:=t) hok' k;show(insL ((InT.kids t).set _ c') _ r).flatMap (Z0e d)=Z6t ((InT.kids t).flatMap (Z0e d)) k v;rw[Y6i (Z0e d) _ hj,Z6k (Z0e d) (InT.kids t) hj,X0n a1 a2,hce,hl]
 ·have hx':x∈insL (InT.keys t) _ mid++(insL ((InT.kids t).set _ c') _ r).flatMap (allT d):=hx;show x=k\/x∈InT.keys t++(InT.kids t).flatMap (allT d);have hin:∀y,y=k\/y∈allT d c->y=k\/y∈InT.keys t++(InT.kids t).flatMap (allT d):=fun y q=>by
   rcases q with q | q
   ·exact .inl q
   ·exact .inr (List.mem_append_right _ (List.mem_flatMap.2 ⟨c,hcm,q⟩))
  rw[List.mem_append,List.mem_flatMap]at hx';rcases hx' with q | ⟨e,q1,q2⟩
  ·rcases Z8c q with rfl | q
   ·exact hin _ hR.key
   ·exact .inr (List.mem_append_left _ q)
  ·rcases hkids e q1 with rfl | rfl | ⟨i,hi,hne⟩
   ·exact hin _ (h.all x q2)
   ·exact hin _ (hR.all x q2)
   ·exact .inr (List.mem_append_right _ (List.mem_flatMap.2 ⟨e,List.mem_of_getElem? hi,q2⟩))
 ·have hx':x∈insL (InT.keys t) _ mid++(insL ((InT.kids t).set _ c') _ r).flatMap (sepT d):=hx;rw[List.mem_append,List.mem_flatMap]at hx';rcases hx' with q | ⟨e,q1,q2⟩
  ·rcases Z8c q with rfl | q
   ·refine .inr ⟨z,(h.all z hz).imp_right (fun q=>List.mem_append_right _ (List.mem_flatMap.2 ⟨c,hcm,q⟩)),hR.below z hz⟩
   ·exact .inl (List.mem_append_left _ q)
  ·rcases hkids e q1 with rfl | rfl | ⟨i,hi,hne⟩
   ·exact U0y hcm (h.sep x q2)
   ·exact U0y hcm (hR.sep x q2)
   ·exact .inl (List.mem_append_right _ (List.mem_flatMap.2 ⟨e,List.mem_of_getElem? hi,q2⟩))
theorem V9k{d:Nat}{S S1 S':StoreD}{t t':TT (d+1)}{k v:ByteArray}{c c' r:TT d}{mid:ByteArray}{o:Option (ByteArray×TT (d+1))}{F1:List Nat}(hf:Fm S)(hon:onT S (d+1) t)(hok:okT (d+1) t)(hk:Z3a k)(hnd:(Z0a (d+1) t).Nodup)(hc:(InT.kids t)[Z0g (InT.keys t) k]? =some c)(h:PutL d S c k v S1 c' (some (mid,r)) F1)
 (hcut:V4m d S1 (InT.mk (InT.at_ t) (insL (InT.keys t) (Z0g (InT.keys t) k) mid) (insL ((InT.kids t).set (Z0g (InT.keys t) k) c') (Z0g (InT.keys t) k+1) r)) S' t' o):
  ∃F,PutL (d+1) S t k v S' t' o F:=by
 obtain⟨L,hL,g1,g2,g3,g4,g5,g6,g7,g8,g9⟩:=Y9c hf hon hok hk hnd hc h;rw[<-hL]at hcut;have hLa:InT.at_ L=InT.at_ t:=by rw[hL]
 have hf1:=hf.stp h.stp (fun b q=>by cases q);obtain⟨F2,q⟩:=V3x hcut hf1 g1 g2 g3 g4 g5;obtain⟨hj,hce⟩:=aC.1 hc;have hcm:c∈InT.kids t:=hce▸List.getElem_mem hj;have hpg:∀b∈Z0a d c,b∈Z0a (d+1) t:=fun b hb=>by show b∈InT.at_ t::_;exact List.mem_cons_of_mem _ (List.mem_flatMap.2 ⟨c,hcm,hb⟩)
 have hfr:∀b∈F2,Z0z S b=false/\b∉F1:=fun b hb=>by
  have h1:=(q.fresh b hb).1;have h2:=h.stp.used b;constructor
  ·cases e:Z0z S b with
   | false=>rfl
   | true=>rw[h2.2 ⟨.inl e,by simp⟩]at h1;cases h1
  ·intro e;rw[h2.2 ⟨.inr e,by simp⟩]at h1;cases h1
 have hst:=h.stp.trans (Q:=fun b=>b=InT.at_ L) q.stp (fun b _=>by simp) (fun b r=> .inr (.inr r));refine⟨F1++F2,⟨?_,?_,fun b hb=> ?_,?_,q.at_.trans hLa,q.on,q.ok,?_,?_,fun x hx=>g8 x (q.all x hx),fun x hx=>g9 x (q.sep x hx),fun m r' e=> ?_⟩⟩
 ·refine hst.mono (fun b r=> ?_);rcases r with r | r
  ·exact hpg b r
  ·rw[r,hLa];show _∈InT.at_ t::_;exact List.mem_cons_self
 ·rw[List.nodup_append];exact⟨h.nd,q.nd,fun a ha b hb e=>by subst e;exact(hfr a hb).2 ha⟩
 ·rcases List.mem_append.1 hb with hb | hb
  ·exact h.fresh b hb
  ·have:=q.fresh b hb;rw[h.stp.head]at this;exact⟨(hfr b hb).1,this.2⟩
 ·rw[aA];have:=h.len;have:=q.len;omega
 ·refine q.pages.trans ?_;rw[<-aG];exact g6.append_right F2
 ·rw[q.list,g7]
 ·have:=q.right m r' e;exact⟨this.on,this.ok,g8 _ this.key,this.below,this.above,fun x hx=>g8 x (this.all x hx),this.some,fun x hx=>g9 x (this.sep x hx),this.sabove⟩
theorem Z5i:∀(d:Nat) {S S':StoreD} {t t':TT d} {k v:ByteArray} {o:Option (ByteArray×TT d)},PutR d S t k v S' t' o->Fm S->onT S d t->okT d t->Z3a k->v.size<=80->(Z0a d t).Nodup->∃F,PutL d S t k v S' t' o F
 | 0,S,S',t,t',k,v,o,h,hf,hon,hok,hk,hv,hnd=>by
   obtain⟨F,q⟩:=V3y h hf (PageN.given hon) (X4f hok hk hv) (Y9u hon hok hk hv);have hall:∀x,x∈allT 0 (Z6r t k v)->x=k\/x∈allT 0 t:=fun x hx=>Y7u.1 x hx;refine⟨F,⟨q.stp.mono (fun b r=>by rw[r];show _∈ [_];exact List.mem_cons_self),q.nd,q.fresh,q.len,q.at_,q.on,q.ok,q.pages,q.list.trans (Y6c hok k v),fun x hx=>hall x (q.all x hx),(fun x hx=>by cases t';cases hx),fun m r e=> ?_⟩⟩;have:=q.right m r e;exact⟨this.on,this.ok,hall _ this.key,this.below,this.above,fun x hx=>hall x (this.all x hx),this.some,(fun x hx=>by cases hx),this.sabove⟩
 | d+1,S,S',t,t',k,v,o,h,hf,hon,hok,hk,hv,hnd=>by
   obtain⟨c,hc,S1,c',o1,h1,h2⟩:=h;have hcm:c∈InT.kids t:=List.mem_of_getElem? hc;obtain⟨F1,q⟩:=Z5i d h1 hf (hon.2 c hcm) (hok.2.2.2.1 c hcm) hk hv ((Z1c hnd).1 c hcm).2;cases o1 with
   | none=>
     obtain⟨rfl,rfl,rfl⟩:=h2;exact⟨F1,V9l hf hon hok hk hnd hc q⟩
   | some x=>
     obtain⟨mid,r⟩:=x;exact V9k hf hon hok hk hnd hc q h2
def Z2z:(d:Nat)->TT d->ByteArray->TT d->TT d
 | 0,a,_,b=>LeafT.mk (LeafT.at_ a) (LeafT.keys a++LeafT.keys b) (LeafT.vals a++LeafT.vals b)
 | _+1,a,s,b=>InT.mk (InT.at_ a) (InT.keys a++s::InT.keys b) (InT.kids a++InT.kids b)
def Z6s(d:Nat)(t:TT (d+1))(i:Nat)(c:TT d):TT (d+1):=InT.mk (InT.at_ t) ((InT.keys t).eraseIdx i) (((InT.kids t).set i c).eraseIdx (i+1))
def U1j(d:Nat)(S:StoreD)(t:TT (d+1))(i:Nat)(S':StoreD)(t':TT (d+1)):Prop:=
 ((InT.kids t).length<2/\S'=S/\t'=t)\/
 (2<=(InT.kids t).length/\∃a b s,(InT.kids t)[i]? =some a/\(InT.kids t)[i+1]? =some b/\(InT.keys t)[i]? =some s/\
   ((256<Z0m (Z0c d (Z2z d a s b))/\S'=S/\t'=t)\/
    (Z0m (Z0c d (Z2z d a s b))<=256/\S'=useP (layP (layP S (InT.at_ t) (Z0c (d+1) (Z6s d t i (Z2z d a s b)))) (atT d a) (Z0c d (Z2z d a s b))) (atT d b) false/\t'=Z6s d t i (Z2z d a s b))))
def V3u(t:LeafT)(k:ByteArray):LeafT:=⟨t.at_,(delN (Z0c 0 t) k).keys,(delN (Z0c 0 t) k).vals⟩
def Y2j:(d:Nat)->StoreD->TT d->ByteArray->StoreD->TT d->Prop
 | 0,S,t,k,S',t'=>S'=layP S (LeafT.at_ t) (Z0c 0 (V3u t k))/\t'=V3u t k
 | d+1,S,t,k,S',t'=>∃c,(InT.kids t)[Z0g (InT.keys t) k]? =some c/\∃S1 c',Y2j d S c k S1 c'/\U1j d S1 (InT.mk (InT.at_ t) (InT.keys t) ((InT.kids t).set (Z0g (InT.keys t) k) c')) (min (Z0g (InT.keys t) k) ((InT.kids t).length-2)) S' t'
structure LessL (d:Nat) (S:StoreD) (t:TT d) (l:List KV) (S':StoreD) (t':TT d) (G:List Nat):Prop where
 stp:Stp (fun b=>b∈Z0a d t) [] G S S'
 at_:atT d t'=atT d t
 on:onT S' d t'
 ok:okT d t'
 pages:(Z0a d t'++G).Perm (Z0a d t)
 list:Z0e d t'=l
 all:∀x∈allT d t',x∈allT d t
 sep:∀x∈sepT d t',x∈sepT d t
theorem LessL.nd{d:Nat}{S S':StoreD}{t t':TT d}{l:List KV}{G:List Nat}(h:LessL d S t l S' t' G)(hn:(Z0a d t).Nodup):(Z0a d t').Nodup/\G.Nodup/\(∀b∈G,b∈Z0a d t/\b∉Z0a d t')/\∀b∈Z0a d t',b∈Z0a d t:=by have h1:=h.pages.nodup_iff.2 hn;rw[List.nodup_append]at h1;exact⟨h1.1,h1.2.1,fun b hb=>⟨h.pages.mem_iff.1 (List.mem_append_right _ hb),fun q=>h1.2.2 b q b hb rfl⟩,fun b hb=>h.pages.mem_iff.1 (List.mem_append_left _ hb)⟩
theorem X2u(d:Nat)(a:TT d)(s:ByteArray)(b:TT d):atT d (Z2z d a s b)=atT d a:=by cases d<;>rfl
theorem V4f(d:Nat)(a:TT d)(s:ByteArray)(b:TT d)(ha:okT d a):Z0e d (Z2z d a s b)=Z0e d a++Z0e d b:=by
 cases d with
 | zero=>exact List.zip_append ha.2.1.symm
 | succ d=>exact aH
theorem X8g(d:Nat)(a:TT d)(s:ByteArray)(b:TT d):(Z0a d (Z2z d a s b)++ [atT d b]).Perm (Z0a d a++Z0a d b):=by
 cases d with
 | zero=>exact List.Perm.refl _
 | succ d=>
   show((InT.at_ a::(InT.kids a++InT.kids b).flatMap (Z0a d))++ [InT.at_ b]).Perm ((InT.at_ a::(InT.kids a).flatMap (Z0a d))++(InT.at_ b::(InT.kids b).flatMap (Z0a d)));rw[List.cons_append,List.cons_append,List.perm_cons,aH];refine(List.perm_append_singleton _ _).trans ?_;exact List.perm_middle.symm
theorem V8q(d:Nat)(a:TT d)(s:ByteArray)(b:TT d):∀x∈allT d (Z2z d a s b),x∈allT d a\/x=s\/x∈allT d b:=by
 cases d with
 | zero=>exact fun x hx=>(List.mem_append.1 hx).imp_right Or.inr
 | succ d=>
   intro x hx;have hx':x∈(InT.keys a++s::InT.keys b)++(InT.kids a++InT.kids b).flatMap (allT d):=hx;show x∈InT.keys a++(InT.kids a).flatMap (allT d)\/x=s\/x∈InT.keys b++(InT.kids b).flatMap (allT d);rw[aH]at hx';simp only[List.mem_append,List.mem_cons]at hx' ⊢;rcases hx' with (q | q | q) | q | q
   ·exact .inl (.inl q)
   ·exact .inr (.inl q)
   ·exact .inr (.inr (.inl q))
   ·exact .inl (.inr q)
   ·exact .inr (.inr (.inr q))
theorem U0z(d:Nat)(a:TT d)(s:ByteArray)(b:TT d)(ha:okT d a)(hb:okT d b)(hs:Z3a s)(h1:∀x∈allT d a,ltB x s=true)(h2:∀x∈allT d b,ltB x s=false)(h3:∀x∈sepT d b,ltB s x=true):okT d (Z2z d a s b):=by
 cases d with
 | zero=>
   obtain⟨a1,a2,a3,a4⟩:=ha;obtain⟨b1,b2,b3,b4⟩:=hb;refine⟨?_,?_,fun x hx=>(List.mem_append.1 hx).elim (a3 x) (b3 x),fun x hx=>(List.mem_append.1 hx).elim (a4 x) (b4 x)⟩
   ·show(LeafT.keys a++LeafT.keys b).Pairwise _;rw[List.pairwise_append];exact⟨a1,b1,fun x hx y hy=>Z3q (h1 x hx) (h2 y hy)⟩
   ·show(LeafT.vals a++LeafT.vals b).length=(LeafT.keys a++LeafT.keys b).length;rw[aA,aA,a2,b2]
 | succ d=>
   obtain⟨a1,a2,a3,a4,a5,a6⟩:=ha;obtain⟨b1,b2,b3,b4,b5,b6⟩:=hb;have sb:∀x∈InT.keys b,x∈sepT (d+1) b:=fun x hx=>List.mem_append_left _ hx;have tb:∀c∈InT.kids b,∀x∈sepT d c,x∈sepT (d+1) b:=fun c hc x hx=>List.mem_append_right _ (List.mem_flatMap.2 ⟨c,hc,hx⟩);have ka:∀x∈InT.keys a,x∈allT (d+1) a:=fun x hx=>List.mem_append_left _ hx;have kb:∀x∈InT.keys b,x∈allT (d+1) b:=fun x hx=>List.mem_append_left _ hx;have ca:∀c∈InT.kids a,∀x∈allT d c,x∈allT (d+1) a:=fun c hc x hx=>List.mem_append_right _ (List.mem_flatMap.2 ⟨c,hc,hx⟩);have cb:∀c∈InT.kids b,∀x∈allT d c,x∈allT (d+1) b:=fun c hc x hx=>List.mem_append_right _ (List.mem_flatMap.2 ⟨c,hc,hx⟩);refine⟨?_,?_,fun x hx=> ?_,fun c hc=>(List.mem_append.1 hc).elim (a4 c) (b4 c),Z2g.2 (fun j c hc x hx i u hu=> ?_),fun j c hc x hx i u hu hij=> ?_⟩
   ·show(InT.keys a++s::InT.keys b).Pairwise _;rw[List.pairwise_append,List.pairwise_cons];refine⟨a1,⟨fun x hx=>h3 x (sb x hx),b1⟩,fun x hx y hy=> ?_⟩;rcases List.mem_cons.1 hy with rfl | hy
    ·exact h1 x (ka x hx)
    ·exact Z1o (h1 x (ka x hx)) (h3 y (sb y hy))
   ·show(InT.kids a++InT.kids b).length=(InT.keys a++s::InT.keys b).length+1;rw[aA,aA,List.length_cons,a2,b2];omega
   ·rcases List.mem_append.1 hx with hx | hx
    ·exact a3 x hx
    ·rcases List.mem_cons.1 hx with rfl | hx
     ·exact hs
     ·exact b3 x hx
   ·have hc':(InT.kids a++InT.kids b)[j]? =some c:=hc;have hu':(InT.keys a++s::InT.keys b)[i]? =some u:=hu;rw[List.getElem?_append]at hc' hu';by_cases e1:j<(InT.kids a).length
    ·rw[if_pos e1]at hc';have hcm:=List.mem_of_getElem? hc';have hxs:=h1 x (ca c hcm x hx);by_cases f1:i<(InT.keys a).length
     ·rw[if_pos f1]at hu';exact Z2g.1 a5 j c hc' x hx i u hu'
     ·rw[if_neg f1]at hu';refine⟨fun q=>by omega,fun _=> ?_⟩;rcases Nat.eq_zero_or_pos (i-(InT.keys a).length)with e | e
      ·rw[e]at hu';injection hu' with hu';subst hu';exact hxs
      ·obtain⟨p,hp⟩:∃p,i-(InT.keys a).length=p+1:=⟨i-(InT.keys a).length-1,by omega⟩;rw[hp,List.getElem?_cons_succ]at hu';exact Z1o hxs (h3 u (sb u (List.mem_of_getElem? hu')))
    ·rw[if_neg e1]at hc';have hcm:=List.mem_of_getElem? hc';have hxs:=h2 x (cb c hcm x hx);by_cases f1:i<(InT.keys a).length
     ·rw[if_pos f1]at hu';refine⟨fun _=>le_of_lt (Z3q (h1 u (ka u (List.mem_of_getElem? hu'))) hxs),fun q=>by omega⟩
     ·rw[if_neg f1]at hu';rcases Nat.eq_zero_or_pos (i-(InT.keys a).length)with e | e
      ·rw[e]at hu';injection hu' with hu';subst hu';exact⟨fun _=>hxs,fun q=>by omega⟩
      ·obtain⟨p,hp⟩:∃p,i-(InT.keys a).length=p+1:=⟨i-(InT.keys a).length-1,by omega⟩;rw[hp,List.getElem?_cons_succ]at hu';have:=Z2g.1 b5 _ c hc' x hx p u hu';exact⟨fun q=>this.1 (by omega),fun q=>this.2 (by omega)⟩
   ·have hc':(InT.kids a++InT.kids b)[j]? =some c:=hc;have hu':(InT.keys a++s::InT.keys b)[i]? =some u:=hu;rw[List.getElem?_append]at hc' hu';by_cases e1:j<(InT.kids a).length
    ·rw[if_pos e1]at hc';rw[if_pos (by omega)]at hu';exact a6 j c hc' x hx i u hu' hij
    ·rw[if_neg e1]at hc';have hxs:=h3 x (tb c (List.mem_of_getElem? hc') x hx);by_cases f1:i<(InT.keys a).length
     ·rw[if_pos f1]at hu';exact Z1o (h1 u (ka u (List.mem_of_getElem? hu'))) hxs
     ·rw[if_neg f1]at hu';rcases Nat.eq_zero_or_pos (i-(InT.keys a).length)with e | e
      ·rw[e]at hu';injection hu' with hu';subst hu';exact hxs
      ·obtain⟨p,hp⟩:∃p,i-(InT.keys a).length=p+1:=⟨i-(InT.keys a).length-1,by omega⟩;rw[hp,List.getElem?_cons_succ]at hu';exact b6 _ c hc' x hx p u hu' (by omega)
theorem V8o(d:Nat)(a:TT d)(s:ByteArray)(b:TT d):∀x∈sepT d (Z2z d a s b),x∈sepT d a\/x=s\/x∈sepT d b:=by
 cases d with
 | zero=>exact fun x hx=> .inl hx
 | succ d=>
   intro x hx;have hx':x∈(InT.keys a++s::InT.keys b)++(InT.kids a++InT.kids b).flatMap (sepT d):=hx;show x∈InT.keys a++(InT.kids a).flatMap (sepT d)\/x=s\/x∈InT.keys b++(InT.kids b).flatMap (sepT d);rw[aH]at hx';simp only[List.mem_append,List.mem_cons]at hx' ⊢;rcases hx' with (q | q | q) | q | q
   ·exact .inl (.inl q)
   ·exact .inr (.inl q)
   ·exact .inr (.inr (.inl q))
   ·exact .inl (.inr q)
   ·exact .inr (.inr (.inr q))
theorem V8p{S:StoreD}(d:Nat)(a:TT d)(s:ByteArray)(b:TT d)(hok:okT d (Z2z d a s b))(ha:onT S d a)(hb:onT S d b)(hm:S.head.pages<=1024)(hs:Z0m (Z0c d (Z2z d a s b))<=256):NodeOk (Z0c d (Z2z d a s b)):=by
 have h9:=Z7y (Z0c d (Z2z d a s b));cases d with
 | zero=>
   refine⟨fun x hx=>by have:=(hok.2.2.1 x hx).2;omega,fun x hx=>by have:=hok.2.2.2 x hx;omega,fun c hc=>by simp[Z0c]at hc,by omega,fun _=>⟨hok.2.1,rfl⟩,fun q=>by cases q⟩
 | succ d=>
   refine⟨fun x hx=>by have:=(hok.2.2.1 x hx).2;omega,fun x hx=>by simp[Z0c]at hx,Y8e (S:=S) (fun c hc=> ?_) hm,by omega,(fun q=>by cases q),fun _=>⟨rfl,?_⟩⟩
   ·rcases List.mem_append.1 (show c∈InT.kids a++InT.kids b from hc)with q | q
    ·exact ha.2 c q
    ·exact hb.2 c q
   ·show((InT.kids (Z2z (d+1) a s b)).map _).length=_;rw[List.length_map];exact hok.2.1
theorem V8z{α:Type}(ts:List α){i:Nat}(hi:i+1<ts.length)(c:α):(ts.set i c).eraseIdx (i+1)=ts.take i++c::ts.drop (i+2):=by
 rw[List.eraseIdx_eq_take_drop_succ,List.set_eq_take_append_cons_drop,if_pos (by omega)];have h1:(ts.take i++c::ts.drop (i+1)).take (i+1)=ts.take i++ [c]:=by rw[List.take_append,aD,Nat.min_eq_left (by omega),List.take_of_length_le (by rw[aD];omega),show i+1-i=1 by omega];rfl
 have h2:(ts.take i++c::ts.drop (i+1)).drop (i+1+1)=ts.drop (i+2):=by rw[List.drop_append,aD,Nat.min_eq_left (by omega),List.drop_eq_nil_of_le (by rw[aD];omega),show i+1+1-i=1+1 by omega,List.drop_succ_cons,List.drop_drop];rfl
 rw[h1,h2];simp
theorem cut2{α:Type}(ts:List α){i:Nat}(hi:i+1<ts.length):ts=ts.take i++ts[i]::ts[i+1]::ts.drop (i+2):=by
 conv=>lhs;rw[<-List.take_append_drop i ts,List.drop_eq_getElem_cons (by omega),List.drop_eq_getElem_cons hi]
theorem Y1s{α:Type}(ts:List α){i:Nat}(hi:i+1<ts.length)(c:α)(j:Nat):((ts.set i c).eraseIdx (i+1))[j]? =if j<i then ts[j]? else if j=i then some c else ts[j+1]? :=by
 rw[List.getElem?_eraseIdx];by_cases h1:j<i
 ·rw[if_pos (by omega),List.getElem?_set,if_neg (by omega),if_pos h1]
 ·by_cases h2:j=i
  ·subst h2;rw[if_pos (by omega),List.getElem?_set,if_pos rfl,if_pos (by omega),if_neg h1,if_pos rfl]
  ·rw[if_neg (by omega),List.getElem?_set,if_neg (by omega),if_neg h1,if_neg h2]
theorem X4u{d:Nat}{S:StoreD}{t:TT (d+1)}{i:Nat}{a b:TT d}{s:ByteArray}(hf:Fm S)(hon:onT S (d+1) t)(hok:okT (d+1) t)(hnd:(Z0a (d+1) t).Nodup)(ha:(InT.kids t)[i]? =some a)(hb:(InT.kids t)[i+1]? =some b)(hs:(InT.keys t)[i]? =some s)(hsz:Z0m (Z0c d (Z2z d a s b))<=256):
  LessL (d+1) S t (Z0e (d+1) t) (useP (layP (layP S (InT.at_ t) (Z0c (d+1) (Z6s d t i (Z2z d a s b)))) (atT d a) (Z0c d (Z2z d a s b))) (atT d b) false) (Z6s d t i (Z2z d a s b)) [atT d b]/\NodeOk (Z0c (d+1) (Z6s d t i (Z2z d a s b)))/\Z0m (Z0c (d+1) (Z6s d t i (Z2z d a s b)))<=256/\NodeOk (Z0c d (Z2z d a s b))/\Z0r (layP S (InT.at_ t) (Z0c (d+1) (Z6s d t i (Z2z d a s b)))) (atT d a)/\Z0r (layP (layP S (InT.at_ t) (Z0c (d+1) (Z6s d t i (Z2z d a s b)))) (atT d a) (Z0c d (Z2z d a s b))) (atT d b):=by
 obtain⟨n1,n2⟩:=Z1c hnd;obtain⟨k1,k2,k3,k4,k5,k6⟩:=hok;obtain⟨hi1,ha'⟩:=aC.1 ha;obtain⟨hi2,hb'⟩:=aC.1 hb;obtain⟨hi3,hs'⟩:=aC.1 hs;have ham:a∈InT.kids t:=ha'▸List.getElem_mem hi1;have hbm:b∈InT.kids t:=hb'▸List.getElem_mem hi2;have hsm:s∈InT.keys t:=hs'▸List.getElem_mem hi3;have sp:=Z2g.1 k5;have h1:∀x∈allT d a,ltB x s=true:=fun x hx=>(sp i a ha x hx i s hs).2 (aF _);have h2:∀x∈allT d b,ltB x s=false:=fun x hx=>(sp (i+1) b hb x hx i s hs).1 (Nat.lt_succ_self _);have h3:∀x∈sepT d b,ltB s x=true:=fun x hx=>k6 (i+1) b hb x hx i s hs (Nat.lt_succ_self _);have okB:=U0z d a s b (k4 a ham) (k4 b hbm) (k3 s hsm) h1 h2 h3;have nB:=V8p (S:=S) d a s b okB (hon.2 a ham) (hon.2 b hbm) hf.most hsz;generalize hB:Z2z d a s b=B at *;have hBa:atT d B=atT d a:=by rw[<-hB];exact X2u d a s b
 have hBall:∀x∈allT d B,x∈allT d a\/x=s\/x∈allT d b:=by rw[<-hB];exact V8q d a s b
 have hBsep:∀x∈sepT d B,x∈sepT d a\/x=s\/x∈sepT d b:=by rw[<-hB];exact V8o d a s b
 have hBp:(Z0a d B++ [atT d b]).Perm (Z0a d a++Z0a d b):=by rw[<-hB];exact X8g d a s b
 have hBl:Z0e d B=Z0e d a++Z0e d b:=by rw[<-hB];exact V4f d a s b (k4 a ham)
 have hk2:∀e,e∈((InT.kids t).set i B).eraseIdx (i+1)->e=B\/∃j,(InT.kids t)[j]? =some e/\j≠i/\j≠i+1:=fun e he=>by
  obtain⟨j,hj⟩:=List.mem_iff_getElem?.1 he;rw[Y1s _ hi2]at hj;by_cases e1:j<i
  ·rw[if_pos e1]at hj;exact .inr ⟨j,hj,by omega,by omega⟩
  ·rw[if_neg e1]at hj;by_cases e2:j=i
   ·rw[if_pos e2]at hj;injection hj with hj;exact .inl hj.symm
   ·rw[if_neg e2]at hj;exact .inr ⟨j+1,hj,by omega,by omega⟩
 have hwB:∀x∈allT d B,∀(p:Nat) (u:ByteArray),(InT.keys t)[p]? =some u->(p<i->ltB x u=false)/\(i+1<=p->ltB x u=true):=fun x hx p u hu=>by
  rcases hBall x hx with q | q | q
  ·have:=sp i a ha x q p u hu;exact⟨this.1,fun r=>this.2 (by omega)⟩
  ·subst q;obtain⟨hp,hpe⟩:=aC.1 hu;subst hpe;rw[<-hs'];exact⟨fun r=>le_of_lt (Z1u k1 hi3 r),fun r=>Z1u k1 hp (by omega)⟩
  ·have:=sp (i+1) b hb x q p u hu;exact⟨fun r=>this.1 (by omega),this.2⟩
 have hoL:okT (d+1) (Z6s d t i B):=by
  refine⟨k1.sublist (List.eraseIdx_sublist _ _),?_,fun x hx=>k3 x (List.mem_of_mem_eraseIdx hx),fun e he=> ?_,Z2g.2 (fun j e hj x hx p u hu=> ?_),fun j e hj x hx p u hu hpj=> ?_⟩
  ·show(((InT.kids t).set i B).eraseIdx (i+1)).length=((InT.keys t).eraseIdx i).length+1;rw[List.length_eraseIdx,List.length_set,List.length_eraseIdx,if_pos (by omega),if_pos hi3];omega
  ·rcases hk2 e he with rfl | ⟨j,hj,_⟩
   ·exact okB
   ·exact k4 e (List.mem_of_getElem? hj)
  ·have hj':(((InT.kids t).set i B).eraseIdx (i+1))[j]? =some e:=hj;have hu':((InT.keys t).eraseIdx i)[p]? =some u:=hu;rw[Y1s _ hi2]at hj';rw[List.getElem?_eraseIdx]at hu';by_cases e1:j<i
   ·rw[if_pos e1]at hj';by_cases f:p<i
    ·rw[if_pos f]at hu';exact sp j e hj' x hx p u hu'
    ·rw[if_neg f]at hu';have:=sp j e hj' x hx (p+1) u hu';exact⟨fun r=>by omega,fun r=>this.2 (by omega)⟩
   ·rw[if_neg e1]at hj';by_cases e2:j=i
    ·rw[if_pos e2]at hj';injection hj' with hj';subst hj';by_cases f:p<i
     ·rw[if_pos f]at hu';have:=hwB x hx p u hu';exact⟨fun r=>this.1 f,fun r=>by omega⟩
     ·rw[if_neg f]at hu';have:=hwB x hx (p+1) u hu';exact⟨fun r=>by omega,fun r=>this.2 (by omega)⟩
    ·rw[if_neg e2]at hj';by_cases f:p<i
     ·rw[if_pos f]at hu';have:=sp (j+1) e hj' x hx p u hu';exact⟨fun r=>this.1 (by omega),fun r=>by omega⟩
     ·rw[if_neg f]at hu';have:=sp (j+1) e hj' x hx (p+1) u hu';exact⟨fun r=>this.1 (by omega),fun r=>this.2 (by omega)⟩
  ·have hj':(((InT.kids t).set i B).eraseIdx (i+1))[j]? =some e:=hj;have hu':((InT.keys t).eraseIdx i)[p]? =some u:=hu;rw[Y1s _ hi2]at hj';rw[List.getElem?_eraseIdx]at hu';by_cases e1:j<i
   ·rw[if_pos e1]at hj';rw[if_pos (by omega)]at hu';exact k6 j e hj' x hx p u hu' hpj
   ·rw[if_neg e1]at hj';by_cases e2:j=i
    ·rw[if_pos e2]at hj';injection hj' with hj';subst hj';rw[if_pos (by omega)]at hu';rcases hBsep x hx with q | q | q
     ·exact k6 i a ha x q p u hu' (by omega)
     ·subst q;obtain⟨hp,hpe⟩:=aC.1 hu';subst hpe;rw[<-hs'];exact Z1u k1 hi3 (by omega)
     ·exact k6 (i+1) b hb x q p u hu' (by omega)
    ·rw[if_neg e2]at hj';by_cases f:p<i
     ·rw[if_pos f]at hu';exact k6 (j+1) e hj' x hx p u hu' (by omega)
     ·rw[if_neg f]at hu';exact k6 (j+1) e hj' x hx (p+1) u hu' (by omega)
 have hsmall:=hon.1.small;have hn1:NodeOk (Z0c (d+1) (Z6s d t i B)):=by
  refine⟨fun x hx=>by have:=(hoL.2.2.1 x hx).2;omega,fun x hx=>by simp[Z0c]at hx,fun c hc=> ?_,?_,(fun q=>by cases q),fun _=>⟨rfl,?_⟩⟩
  ·obtain⟨e,he,rfl⟩:=List.mem_map.1 hc;have hg:Z0r S (atT d e):=by
    rcases hk2 e he with rfl | ⟨j,hj,_⟩
    ·rw[hBa];exact Z0k d a (hon.2 a ham) _ (Z0q d a)
    ·exact Z0k d e (hon.2 e (List.mem_of_getElem? hj)) _ (Z0q d e)
   have:=hg.2.1;have:=hf.most;exact⟨by omega,by omega⟩
  ·have h9:=Z7y (Z0c (d+1) t);have h8:(Z0c (d+1) t).keys.length=(InT.keys t).length:=rfl;show((InT.keys t).eraseIdx i).length<=255;have:=List.length_eraseIdx_le (InT.keys t) i;omega
  ·show((((InT.kids t).set i B).eraseIdx (i+1)).map _).length=_;rw[List.length_map];exact hoL.2.1
 have hz1:Z0m (Z0c (d+1) (Z6s d t i B))<=256:=by rw[Z8f]at hsmall;refine Nat.le_trans (Nat.le_of_eq (Z8f (Z6s d t i B))) ?_;show 2+2*(((InT.kids t).set i B).eraseIdx (i+1)).length+Z0n ((InT.keys t).eraseIdx i)<=256;have h9:=List.length_eraseIdx_le ((InT.kids t).set i B) (i+1);rw[List.length_set]at h9;have:=Z8v (InT.keys t) i;omega
 have ga:Z0r S (atT d a):=Z0k d a (hon.2 a ham) _ (Z0q d a);have gb:Z0r S (atT d b):=Z0k d b (hon.2 b hbm) _ (Z0q d b);have hm:=hf.most;have t1:=Z5m hf.full hon.1.given.1 hn1 hz1;have p1:=Z4e hon.1.given hn1 hz1;have ga1:Z0r (layP S (InT.at_ t) (Z0c (d+1) (Z6s d t i B))) (atT d a):=t1.given ga (by simp);have t2:=Z5m t1.full ga.1 nB hsz;have p2:=Z4e ga1 nB hsz;have gb2:Z0r (layP (layP S (InT.at_ t) (Z0c (d+1) (Z6s d t i B))) (atT d a) (Z0c d B)) (atT d b):=t2.given (t1.given gb (by simp)) (by simp);have t3:=Y2n t2.full (n:=atT d b) (by have:=gb.2.1;omega);have hat1:InT.at_ t≠atT d a:=fun e=>(n1 a ham).1 (e▸Z0q d a);have hat2:InT.at_ t≠atT d b:=fun e=>(n1 b hbm).1 (e▸Z0q d b);have hab:atT d a≠atT d b:=fun e=>n2 i (i+1) a b ha hb (by omega) _ (Z0q d a) (e▸Z0q d b);have t12:=t1.trans (Q:=fun b=>b=atT d a) t2 (fun b q=>by cases q) (fun b q=> .inr (.inr q));have t123:=t12.trans (Q:=fun _=>False) t3 (fun b q=>by cases q) (fun b q=>q.elim);refine⟨⟨?_,rfl,⟨?_,fun e he=> ?_⟩,hoL,?_,?_,fun x hx=> ?_,fun x hx=> ?_⟩,hn1,hz1,nB,ga1,gb2⟩
 ·have:=t123.mono (P':=fun b=>b∈Z0a (d+1) t) (fun b q=>by
   show b∈InT.at_ t::(InT.kids t).flatMap (Z0a d);rcases q with (q | q) | q
   ·rw[q];exact List.mem_cons_self
   ·rw[q];exact List.mem_cons_of_mem _ (List.mem_flatMap.2 ⟨a,ham,Z0q d a⟩)
   ·exact q.elim)
  simpa using this
 ·exact(p1.stp t2 hat1 (by simp) (by simp)).stp t3 (fun q=>q) (by simp) (by simpa using hat2)
 ·have far:∀c,c∈InT.kids t->(∀b'∈Z0a d c,b'≠atT d a/\b'≠atT d b)->onT (useP (layP (layP S (InT.at_ t) (Z0c (d+1) (Z6s d t i B))) (atT d a) (Z0c d B)) (atT d b) false) d c:=fun c hc hn=>
   Z7h t123 d c (hon.2 c hc) (fun b' q=>⟨fun r=>by
    rcases r with (r | r) | r
    ·rw[r]at q;exact(n1 c hc).1 q
    ·exact(hn b' q).1 r
    ·exact r,by simp,by simpa using (hn b' q).2⟩)
  rcases hk2 e he with rfl | ⟨j,hj,j1,j2⟩
  ·have p3:=p2.stp t3 (fun q=>q) (by simp) (by simpa using hab);have p3':PageN (useP (layP (layP S (InT.at_ t) (Z0c (d+1) (Z6s d t i e))) (atT d a) (Z0c d e)) (atT d b) false) (atT d e) (Z0c d e):=by rw[hBa];exact p3
   clear p3;have dis:∀x∈Z0a d a,x∉Z0a d b:=fun x hx=>n2 i (i+1) a b ha hb (by omega) x hx;cases d with
   | zero=>exact p3'
   | succ d=>
     refine⟨p3',fun c hc=> ?_⟩;have hc':c∈InT.kids a++InT.kids b:=by rw[<-hB]at hc;exact hc
     have oc:onT S d c:=(List.mem_append.1 hc').elim ((hon.2 a ham).2 c) ((hon.2 b hbm).2 c);refine Z7h t123 d c oc (fun b' q=> ?_);have na:=(n1 a ham).2;have nb:=(n1 b hbm).2;rcases List.mem_append.1 hc' with hc' | hc'
     ·have q2:b'∈Z0a (d+1) a:=List.mem_cons_of_mem _ (List.mem_flatMap.2 ⟨c,hc',q⟩);refine⟨fun r=> ?_,by simp,fun r=> ?_⟩
      ·rcases r with (r | r) | r
       ·rw[r]at q2;exact(n1 a ham).1 q2
       ·rw[r]at q;exact((Z1c na).1 c hc').1 q
       ·exact r
      ·simp only[List.nil_append,List.append_nil,List.mem_singleton]at r;rw[r]at q2;exact dis _ q2 (Z0q (d+1) b)
     ·have q2:b'∈Z0a (d+1) b:=List.mem_cons_of_mem _ (List.mem_flatMap.2 ⟨c,hc',q⟩);refine⟨fun r=> ?_,by simp,fun r=> ?_⟩
      ·rcases r with (r | r) | r
       ·rw[r]at q2;exact(n1 b hbm).1 q2
       ·rw[r]at q2;exact dis _ (Z0q (d+1) a) q2
       ·exact r
      ·simp only[List.nil_append,List.append_nil,List.mem_singleton]at r;rw[r]at q;exact((Z1c nb).1 c hc').1 q
  ·have hem:=List.mem_of_getElem? hj;exact far e hem (fun b' q=>⟨fun r=>n2 j i e a hj ha j1 b' q (r▸Z0q d a),fun r=>n2 j (i+1) e b hj hb j2 b' q (r▸Z0q d b)⟩)
 ·show(InT.at_ t::(((InT.kids t).set i B).eraseIdx (i+1)).flatMap (Z0a d)++ [atT d b]).Perm (InT.at_ t::(InT.kids t).flatMap (Z0a d));rw[List.cons_append,List.perm_cons,V8z _ hi2]
  conv=>rhs;rw[cut2 (InT.kids t) hi2,ha',hb']
  simp only[aH,aI];generalize ((InT.kids t).take i).flatMap (Z0a d)=X;generalize ((InT.kids t).drop (i+2)).flatMap (Z0a d)=Y;rw[aG];refine List.Perm.append_left X ?_;rw[aG];refine(List.perm_append_comm.append_left _).trans ?_;rw[<-aG,<-aG];exact hBp.append_right Y
 ·show(((InT.kids t).set i B).eraseIdx (i+1)).flatMap (Z0e d)=(InT.kids t).flatMap (Z0e d);rw[V8z _ hi2]
  conv=>rhs;rw[cut2 (InT.kids t) hi2,ha',hb']
  simp only[aH,aI,hBl,aG]
 ·have hx':x∈(InT.keys t).eraseIdx i++(((InT.kids t).set i B).eraseIdx (i+1)).flatMap (allT d):=hx;show x∈InT.keys t++(InT.kids t).flatMap (allT d);rw[List.mem_append,List.mem_flatMap]at hx';rcases hx' with q | ⟨e,q1,q2⟩
  ·exact List.mem_append_left _ (List.mem_of_mem_eraseIdx q)
  ·rcases hk2 e q1 with rfl | ⟨j,hj,_⟩
   ·rcases hBall x q2 with r | r | r
    ·exact List.mem_append_right _ (List.mem_flatMap.2 ⟨a,ham,r⟩)
    ·subst r;exact List.mem_append_left _ hsm
    ·exact List.mem_append_right _ (List.mem_flatMap.2 ⟨b,hbm,r⟩)
   ·exact List.mem_append_right _ (List.mem_flatMap.2 ⟨e,List.mem_of_getElem? hj,q2⟩)
 ·have hx':x∈(InT.keys t).eraseIdx i++(((InT.kids t).set i B).eraseIdx (i+1)).flatMap (sepT d):=hx;show x∈InT.keys t++(InT.kids t).flatMap (sepT d);rw[List.mem_append,List.mem_flatMap]at hx';rcases hx' with q | ⟨e,q1,q2⟩
  ·exact List.mem_append_left _ (List.mem_of_mem_eraseIdx q)
  ·rcases hk2 e q1 with rfl | ⟨j,hj,_⟩
   ·rcases hBsep x q2 with r | r | r
    ·exact List.mem_append_right _ (List.mem_flatMap.2 ⟨a,ham,r⟩)
    ·subst r;exact List.mem_append_left _ hsm
    ·exact List.mem_append_right _ (List.mem_flatMap.2 ⟨b,hbm,r⟩)
   ·exact List.mem_append_right _ (List.mem_flatMap.2 ⟨e,List.mem_of_getElem? hj,q2⟩)
theorem LessL.same{d:Nat}{S:StoreD}{t:TT d}(hf:Fm S)(hon:onT S d t)(hok:okT d t):LessL d S t (Z0e d t) S t []:=
 ⟨Stp.refl hf.full,rfl,hon,hok,by simp,rfl,fun _ h=>h,fun _ h=>h⟩
theorem LessL.fm{d:Nat}{S S':StoreD}{t t':TT d}{l:List KV}{G:List Nat}(h:LessL d S t l S' t' G)(hf:Fm S)(hon:onT S d t):Fm S':=
 hf.stp h.stp (fun b hb=>(Z0k d t hon b (h.pages.mem_iff.1 (List.mem_append_right _ hb))).1)
theorem LessL.trans{d:Nat}{S S' S'':StoreD}{t t' t'':TT d}{l l':List KV}{G G':List Nat}(h:LessL d S t l S' t' G)(k:LessL d S' t' l' S'' t'' G')(hn:(Z0a d t).Nodup):LessL d S t l' S'' t'' (G++G'):=by
 obtain⟨n1,n2,n3,n4⟩:=h.nd hn;refine⟨?_,k.at_.trans h.at_,k.on,k.ok,?_,k.list,fun x hx=>h.all x (k.all x hx),fun x hx=>h.sep x (k.sep x hx)⟩
 ·have:=h.stp.trans (Q:=fun _=>False) k.stp (fun b q=>by cases q) (fun b q=> .inl (n4 b q));exact(by simpa using this.mono (P':=fun b=>b∈Z0a d t) (fun b q=>q.elim id False.elim))
 ·rw[<-aG];refine(List.Perm.append_right G' List.perm_append_comm).trans ?_ |>.trans h.pages
  rw[aG];exact(k.pages.append_left G).trans List.perm_append_comm
theorem V2d{d:Nat}{S S':StoreD}{t t':TT (d+1)}{i:Nat}(h:U1j d S t i S' t')(hf:Fm S)(hon:onT S (d+1) t)(hok:okT (d+1) t)(hnd:(Z0a (d+1) t).Nodup):∃G,LessL (d+1) S t (Z0e (d+1) t) S' t' G:=by
 rcases h with ⟨_,rfl,rfl⟩ | ⟨_,a,b,s,ha,hb,hs,⟨_,rfl,rfl⟩ | ⟨hz,rfl,rfl⟩⟩
 ·exact⟨[],LessL.same hf hon hok⟩
 ·exact⟨[],LessL.same hf hon hok⟩
 ·exact⟨_,(X4u hf hon hok hnd ha hb hs hz).1⟩
theorem X9c{d:Nat}{S S1:StoreD}{t:TT (d+1)}{k:ByteArray}{c c':TT d}{G1:List Nat}(hf:Fm S)(hon:onT S (d+1) t)(hok:okT (d+1) t)(hnd:(Z0a (d+1) t).Nodup)(hc:(InT.kids t)[Z0g (InT.keys t) k]? =some c)(h:LessL d S c (Z7q (Z0e d c) k) S1 c' G1):
  LessL (d+1) S t (Z7q (Z0e (d+1) t) k) S1 (InT.mk (InT.at_ t) (InT.keys t) ((InT.kids t).set (Z0g (InT.keys t) k) c')) G1:=by
 obtain⟨hj,hce⟩:=aC.1 hc;have hcm:c∈InT.kids t:=hce▸List.getElem_mem hj;obtain⟨n1,n2⟩:=Z1c hnd;have hok':=hok;obtain⟨k1,k2,k3,k4,k5,k6⟩:=hok;have hG:∀b∈G1,b∈Z0a d c:=fun b hb=>h.pages.mem_iff.1 (List.mem_append_right _ hb);have hpg:∀b∈Z0a d c,b∈Z0a (d+1) t:=fun b hb=>by show b∈InT.at_ t::_;exact List.mem_cons_of_mem _ (List.mem_flatMap.2 ⟨c,hcm,hb⟩)
 have hk2:∀e,e∈(InT.kids t).set (Z0g (InT.keys t) k) c'->e=c'\/∃j,(InT.kids t)[j]? =some e/\j≠Z0g (InT.keys t) k:=fun e he=>by
  obtain⟨j,hj'⟩:=List.mem_iff_getElem?.1 he;rw[List.getElem?_set]at hj';by_cases e1:Z0g (InT.keys t) k=j
  ·rw[if_pos e1,if_pos hj]at hj';injection hj' with hj';exact .inl hj'.symm
  ·rw[if_neg e1]at hj';exact .inr ⟨j,hj',fun q=>e1 q.symm⟩
 refine⟨h.stp.mono hpg,rfl,⟨?_,fun e he=> ?_⟩,⟨k1,by show((InT.kids t).set _ _).length=_;rw[List.length_set];exact k2,k3,fun e he=> ?_,X9x k5 (fun x hx i s hs=>Z2g.1 k5 _ _ hc x (h.all x hx) i s hs),X9q k6 (fun x hx i s hs hi=>k6 _ c hc x (h.sep x hx) i s hs hi)⟩,?_,?_,fun x hx=> ?_,fun x hx=> ?_⟩
 ·have e1:Z0c (d+1) (InT.mk (InT.at_ t) (InT.keys t) ((InT.kids t).set (Z0g (InT.keys t) k) c'))=Z0c (d+1) t:=by show NodeD.mk false _ [] _=NodeD.mk false _ [] _;rw[Z5v hc h.at_]
  rw[e1];exact hon.1.stp h.stp (n1 c hcm).1 (by simp) (fun q=>(n1 c hcm).1 (hG _ q))
 ·rcases hk2 e he with rfl | ⟨j,hj',hne⟩
  ·exact h.on
  ·have hem:=List.mem_of_getElem? hj';exact Z7h h.stp d e (hon.2 e hem) (fun b q'=>⟨n2 _ _ _ _ hj' hc hne b q',by simp,fun r=>n2 _ _ _ _ hj' hc hne b q' (hG b r)⟩)
 ·rcases hk2 e he with rfl | ⟨j,hj',_⟩
  ·exact h.ok
  ·exact k4 e (List.mem_of_getElem? hj')
 ·show((InT.at_ t::((InT.kids t).set _ c').flatMap (Z0a d))++G1).Perm (Z0a (d+1) t);rw[Y3x hc,Z7n (Z0a d) _ hj,List.cons_append,List.perm_cons];generalize ((InT.kids t).take (Z0g (InT.keys t) k)).flatMap (Z0a d)=A at *;generalize ((InT.kids t).drop (Z0g (InT.keys t) k+1)).flatMap (Z0a d)=C at *;refine List.Perm.trans ?_ ((h.pages.append_left A).append_right C);rw[aG,aG,aG,aG];exact(List.perm_append_comm.append_left _).append_left _
 ·obtain⟨a1,a2⟩:=Y6x (t:=t) hok' k;show((InT.kids t).set _ c').flatMap (Z0e d)=Z7q ((InT.kids t).flatMap (Z0e d)) k;rw[Z7n (Z0e d) _ hj,Z6k (Z0e d) (InT.kids t) hj,X0u a1 a2,hce,h.list]
 ·have hx':x∈InT.keys t++((InT.kids t).set _ c').flatMap (allT d):=hx;show x∈InT.keys t++(InT.kids t).flatMap (allT d);rw[List.mem_append,List.mem_flatMap]at hx' ⊢;rcases hx' with q | ⟨e,q1,q2⟩
  ·exact .inl q
  ·rcases Z4s q1 with rfl | q1
   ·exact .inr ⟨c,hcm,h.all x q2⟩
   ·exact .inr ⟨e,q1,q2⟩
 ·have hx':x∈InT.keys t++((InT.kids t).set _ c').flatMap (sepT d):=hx;show x∈InT.keys t++(InT.kids t).flatMap (sepT d);rw[List.mem_append,List.mem_flatMap]at hx' ⊢;rcases hx' with q | ⟨e,q1,q2⟩
  ·exact .inl q
  ·rcases Z4s q1 with rfl | q1
   ·exact .inr ⟨c,hcm,h.sep x q2⟩
   ·exact .inr ⟨e,q1,q2⟩
def hasT:(d:Nat)->TT d->ByteArray->Prop
 | 0,t,k=>hasB (LeafT.keys t) k=true
 | d+1,t,k=>∃c,(InT.kids t)[Z0g (InT.keys t) k]? =some c/\hasT d c k
theorem V8e{t:LeafT}(h:okT 0 t)(k:ByteArray):okT 0 (V3u t k):=by obtain⟨k1,k2,k3,k4⟩:=h;refine⟨k1.sublist (List.eraseIdx_sublist _ _),?_,fun x hx=>k3 x (List.mem_of_mem_eraseIdx hx),fun x hx=>k4 x (List.mem_of_mem_eraseIdx hx)⟩;show((LeafT.vals t).eraseIdx _).length=((LeafT.keys t).eraseIdx _).length;rw[List.length_eraseIdx,List.length_eraseIdx,k2]
theorem Z6y:∀(d:Nat) {S S':StoreD} {t t':TT d} {k:ByteArray},Y2j d S t k S' t'->Fm S->onT S d t->okT d t->hasT d t k->(Z0a d t).Nodup->∃G,LessL d S t (Z7q (Z0e d t) k) S' t' G
 | 0,S,S',t,t',k,h,hf,hon,hok,hh,hnd=>by
   obtain⟨rfl,rfl⟩:=h;have hp:=Z3x 0 t hon;have h1:NodeOk (Z0c 0 (V3u t k)):=V3t k hp.ok rfl;have h2:Z0m (Z0c 0 (V3u t k))<=256:=X0t k hp rfl;refine⟨[],(Z5m hf.full hp.given.1 h1 h2).mono (fun b q=>by rw[q];exact Z0q 0 t),rfl,Z4e hp.given h1 h2,V8e hok k,?_,V3v hok.2.1 hok.1 k hh,fun x hx=>List.mem_of_mem_eraseIdx hx,(fun x hx=>by cases hx)⟩;rw[List.append_nil];exact List.Perm.refl _
 | d+1,S,S',t,t',k,h,hf,hon,hok,hh,hnd=>by obtain⟨c,hc,S1,c',h1,h2⟩:=h;have hcm:c∈InT.kids t:=List.mem_of_getElem? hc;obtain⟨e,he,hh'⟩:=hh;rw[hc]at he;injection he with he;subst he;obtain⟨G1,q⟩:=Z6y d h1 hf (hon.2 c hcm) (hok.2.2.2.1 c hcm) hh' ((Z1c hnd).1 c hcm).2;have u:=X9c hf hon hok hnd hc q;obtain⟨G2,r⟩:=V2d h2 (u.fm hf hon) u.on u.ok (u.nd hnd).1;rw[u.list]at r;exact⟨_,u.trans r hnd⟩
theorem Y0c:∀(d:Nat) (t:TT d),okT d t->∀k,hasT d t k↔∃x∈Z0e d t,x.1=k
 | 0,t,h,k=>by
   have hl:(LeafT.vals t).length=(LeafT.keys t).length:=h.2.1;show hasB (LeafT.keys t) k=true↔∃x∈(LeafT.keys t).zip (LeafT.vals t),x.1=k;rw[Z6j];have h1:((LeafT.keys t).zip (LeafT.vals t)).map (·.1)=LeafT.keys t:=List.map_fst_zip (by omega)
   conv=>lhs;rw[<-h1]
   rw[List.mem_map]
 | d+1,t,h,k=>by
   have hok:=h;obtain⟨k1,k2,k3,k4,k5,k6⟩:=h;have hj:Z0g (InT.keys t) k<(InT.kids t).length:=by have:=Z4o (k:=k) k1;omega
   obtain⟨a1,a2⟩:=Y6x (t:=t) hok k;show(∃c,(InT.kids t)[Z0g (InT.keys t) k]? =some c/\hasT d c k)↔∃x∈(InT.kids t).flatMap (Z0e d),x.1=k;rw[aB hj,Z6k (Z0e d) _ hj];constructor
   ·rintro⟨c,hc,hh⟩;injection hc with hc;subst hc;obtain⟨x,hx,e⟩:=(Y0c d _ (k4 _ (List.getElem_mem hj)) k).1 hh;exact⟨x,List.mem_append_left _ (List.mem_append_right _ hx),e⟩
   ·rintro⟨x,hx,e⟩;refine⟨_,rfl,(Y0c d _ (k4 _ (List.getElem_mem hj)) k).2 ⟨x,?_,e⟩⟩;rcases List.mem_append.1 hx with hx | hx
    ·rcases List.mem_append.1 hx with hx | hx
     ·have:=a1 x hx;rw[e,Z1h]at this;cases this
     ·exact hx
    ·have:=a2 x hx;rw[e,Z1h]at this;cases this
end Go.Proofs.YtohaldfnmgcofaaGreat
