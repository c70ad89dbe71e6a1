/- A table behind so many acts, its pages counted. Plain. No conditions. -/
import Derived.Test.YtmiolpfanlpfnaaGreatW33
import Derived.Test.YtmiolpfanlpfnaaGreatW19
set_option linter.unusedSimpArgs false
set_option linter.unusedVariables false
namespace Go.Proofs.YtmiolpfanlpfnaaGreat
section
open Go.RowKit
structure TabZ (c:Nat) (C:StoreD) (S:StoreD) (Ts:Nat->TrD) (l:List OpD) (t:Nat):Prop extends TabI c S Ts l t where
 soil:Soil (Y9k t) C S
theorem PutY.putB{S0 S:StoreD}{Ts0 Ts:Nat->TrD}{l:List OpD}{o:OpD}(h:PutY S0 Ts0 l o S Ts):PutB S0 Ts0 l o S Ts:=
 let ⟨S1,Ts1,h1,h2,h3,_⟩:=h.via;⟨h.tab,S1,Ts1,h1.toDelB,h2,h3⟩
section
variable {c t:Nat} {C S0 S:StoreD} {Ts0 Ts:Nat->TrD} {l:List OpD} {o:OpD} {id:Int}
theorem TabZ.more{u:Nat}(h:TabZ c C S Ts l t)(hu:t<=u):TabZ c C S Ts l u:=⟨h.toTabI.more hu,h.soil.more (Y0n hu)⟩
theorem TabZ.del(h:TabZ c C S0 Ts0 l t)(hb:DelY S0 Ts0 l id S Ts):TabZ c C S Ts (delO l id) t:=⟨h.toTabI.del hb.toDelB,hb.soil _ _ h.soil⟩
theorem TabZ.put(h:TabZ c C S0 Ts0 l t)(ho:Z2i o=0)(hb:PutY S0 Ts0 l o S Ts):TabZ c C S Ts (wiO l o) (t+1):=by refine⟨h.toTabI.put ho hb.putB,?_⟩;obtain⟨S1,Ts1,h1,h2,h3,h4⟩:=hb.via;have h5:=h.toTabI.del h1.toDelB;refine(h4 h5.slim _ _ (h1.soil _ _ h.soil)).more ?_;have:=Y6h h5.pot 5 (aF _);show _<=Y9k t+5*((t+17)/9);omega
end
section
variable {S S':StoreD}
theorem Cmtd.used(h:Cmtd S S')(hp:2<S.head.pages)(b:Nat):Z0y S' b=Z0y S b:=by unfold Z0y;rw[h.view 0 (by omega)]
theorem Cmtd.root(h:Cmtd S S')(hp:2<S.head.pages)(i:Nat):Z1w S' i=Z1w S i:=by unfold Z1w;rw[h.view 1 (by omega)]
theorem Cmtd.rm(h:Cmtd S S')(hp:2<S.head.pages):Z0z S'=Z0z S:=by unfold Z0z Z1y;rw[h.pages,show Z0y S'=Z0y S from funext (fun b=>h.used hp b)]
theorem PageN.cmtd{a:Nat}{n:NodeD}(hn:PageN S a n)(h:Cmtd S S')(hp:2<S.head.pages):PageN S' a n:=
 ⟨⟨hn.given.1,by rw[h.pages];exact hn.given.2.1,by rw[h.used hp];exact hn.given.2.2⟩,hn.ok,hn.fits,by rw[h.view a hn.given.2.1];exact hn.view⟩
theorem X4j(h:Cmtd S S')(hp:2<S.head.pages):∀(d:Nat) (t:TT d),onT S d t->onT S' d t
 | 0,_,ho=>PageN.cmtd ho h hp
 | d+1,_,ho=>⟨PageN.cmtd ho.1 h hp,fun c hc=>X4j h hp d c (ho.2 c hc)⟩
theorem TrS.cmtd{i:Nat}(h:Cmtd S S')(hp:2<S.head.pages):∀ {T:TrD},TrS S i T->TrS S' i T
 | .no,ht=>by show Z1w S' i=0;rw[h.root hp];exact ht
 | .yes d t,ht=>⟨by rw[h.root hp];exact ht.1,X4j h hp d t ht.2.1,ht.2.2⟩
theorem Fm.cmtd(hf:Fm S)(h:Cmtd S S')(hp:2<S.head.pages)(hfull:FullV S'):Fm S':=⟨hfull,by rw[h.used hp];exact hf.u0,by rw[h.used hp];exact hf.u1,by rw[h.pages];exact hf.most⟩
theorem Tab.cmtd{Ts:Nat->TrD}{L:Nat->List OpD}(ht:Tab S Ts L)(h:Cmtd S S')(hp:2<S.head.pages)(hfull:FullV S'):Tab S' Ts L:=
 ⟨ht.fm.cmtd h hp hfull,fun i hi=>(ht.tr i hi).cmtd h hp,ht.disj,ht.ok,ht.ids,ht.mem⟩
theorem TabI.cmtd{c t:Nat}{Ts:Nat->TrD}{l:List OpD}(ht:TabI c S Ts l t)(h:Cmtd S S')(hp:2<S.head.pages)(hfull:FullV S'):TabI c S' Ts l t:=
 ⟨ht.tab.cmtd h hp hfull,ht.ris,ht.pot,ht.slim,by rw[h.rm hp];exact ht.room⟩
theorem TabZ.cmtd{c t:Nat}{C:StoreD}{Ts:Nat->TrD}{l:List OpD}(ht:TabZ c C S Ts l t)(h:Cmtd S S')(hp:2<S.head.pages)(hfull:FullV S'):TabZ c S' S' Ts l t:=by
 refine⟨ht.toTabI.cmtd h hp hfull,rfl,?_⟩;obtain⟨L,h1,h2⟩:=ht.soil.list;refine⟨L,h1,fun b hb q=>h2 b hb ?_⟩;rcases q with q | q
 ·exact absurd (h.clean b) q
 ·rw[h.used hp]at q;exact .inr q
end
theorem V4z{S:StoreD}(h:Fm S)(hr:∀i,i<5->TrS S i .no):Tab S (fun _=> .no) (fun _=> []):=
 ⟨h,hr,fun i j _ _ _ b hb=>(by cases hb),fun i _ o ho=>(by cases ho),fun i _=>List.Pairwise.nil,fun i _ x=>⟨fun q=>(by cases q),fun⟨_,q,_⟩=>(by cases q)⟩⟩
theorem X9o{c n room:Nat}(hf:FullV (Z1j n room))(hc:c<=pgN n room-2):TabI c (Z1j n room) (fun _=> .no) [] 0:=
 ⟨V4z (X3y hf) (fun i _=>X3x n room i),List.Pairwise.nil,fun i _=>Nat.zero_le _,fun i _ x hx=>(by cases hx),by rw[Y0q];show c<=_+0;omega⟩
end
end Go.Proofs.YtmiolpfanlpfnaaGreat
