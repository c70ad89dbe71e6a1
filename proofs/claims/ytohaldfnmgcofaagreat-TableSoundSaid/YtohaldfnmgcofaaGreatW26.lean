/- A tree of a root: what Put makes of it; plain. No conditions. -/
import Derived.Test.YtohaldfnmgcofaaGreatW25
import Derived.Test.YtohaldfnmgcofaaGreatW19
set_option maxRecDepth 100000
set_option maxHeartbeats 4000000
set_option linter.unusedSimpArgs false
set_option linter.unusedVariables false
namespace Go.Proofs.YtohaldfnmgcofaaGreat
open Go.RowKit
structure Frm (P:Nat->Prop) (F G:List Nat) (S S':StoreD):Prop where
 head:S'.head=S.head
 view:∀b,2<=b->¬P b->b∉F->Z1a S' b=Z1a S b
 used:∀b,Z0z S' b=true↔(Z0z S b=true\/b∈F)/\b∉G
section
variable {P:Nat->Prop} {F G:List Nat} {S S':StoreD}
theorem PageN.frm{a:Nat}{n:NodeD}(hp:PageN S a n)(h:Frm P F G S S')(h1:¬P a)(h2:a∉F)(h3:a∉G):PageN S' a n:=
 ⟨⟨hp.given.1,by rw[h.head];exact hp.given.2.1,(h.used a).2 ⟨.inl hp.given.2.2,h3⟩⟩,hp.ok,hp.fits,by rw[h.view a hp.given.1 h1 h2];exact hp.view⟩
theorem Y4f(h:Frm P F G S S'):∀(d:Nat) (t:TT d),onT S d t->(∀b∈Z0a d t,¬P b/\b∉F/\b∉G)->onT S' d t
 | 0,t,ho,hb=>by
   have:=hb (LeafT.at_ t) (by simp[Z0a]);exact PageN.frm ho h this.1 this.2.1 this.2.2
 | d+1,t,ho,hb=>by have:=hb (InT.at_ t) (by simp[Z0a]);refine⟨PageN.frm ho.1 h this.1 this.2.1 this.2.2,fun c hc=>Y4f h d c (ho.2 c hc) (fun b q=>hb b ?_)⟩;simp only[Z0a,List.mem_cons,List.mem_flatMap];exact .inr ⟨c,hc,q⟩
end
structure Big (i:Nat) (P:Nat->Prop) (F G:List Nat) (S S':StoreD):Prop where
 same:S'= { S with dirty:=S'.dirty}
 full:FullV S'
 root:∀j,j<16->j≠i->Z1x S' j=Z1x S j
 view:∀b,2<=b->¬P b->b∉F->Z1a S' b=Z1a S b
 used:∀b,Z0z S' b=true↔(Z0z S b=true\/b∈F)/\b∉G
 dirt:∀b:Nat,2<=b->S'.dirty (b:Int)≠none->S.dirty (b:Int)≠none\/P b\/b∈F
section
variable {i:Nat} {P P':Nat->Prop} {F G:List Nat} {S S':StoreD}
theorem Big.head(h:Big i P F G S S'):S'.head=S.head:=by rw[h.same]
theorem Big.frm(h:Big i P F G S S'):Frm P F G S S':=⟨h.head,h.view,h.used⟩
theorem Stp.big(h:Stp P F G S S')(i:Nat):Big i P F G S S':=⟨h.same,h.full,fun j _ _=>h.root j,h.view,h.used,h.dirt⟩
theorem Big.mono(h:Big i P F G S S')(hP:∀b,P b->P' b):Big i P' F G S S':=⟨h.same,h.full,h.root,fun b h1 h2 h3=>h.view b h1 (fun q=>h2 (hP b q)) h3,h.used,fun b h1 h2=>(h.dirt b h1 h2).imp_right (Or.imp_left (hP b))⟩
theorem Fm.big(h:Fm S)(k:Big i P F G S S')(hG:∀b∈G,2<=b):Fm S':=
 ⟨k.full,(k.used 0).2 ⟨.inl h.u0,fun q=>by have:=hG _ q;omega⟩,(k.used 1).2 ⟨.inl h.u1,fun q=>by have:=hG _ q;omega⟩,by rw[k.head];exact h.most⟩
theorem Stp.setRoot(h:Stp P F G S S')(hi:i<16){n:Nat}(hn:n<4294967296):Big i P F G S (Z0p S' i n)/\Z1x (Z0p S' i n) i=n:=by
 have hv:(Y3m (Z1a S' 1) i n).size=256:=Y0z (h.full 1) hi n;refine⟨⟨by rw[h.same];rfl,Y2t h.full 1 (by rw[hv];decide),fun j hj hne=> ?_,fun b h1 h2 h3=> ?_,fun b=> ?_,fun b h1 h2=> ?_⟩,?_⟩
 ·rw[X3u h.full hi hj hn,if_neg hne,h.root]
 ·rw[Y7d _ _ _ _ (by omega)];exact h.view b h1 h2 h3
 ·rw[Y7e];exact h.used b
 ·refine h.dirt b h1 (fun q=>h2 ?_);show updI S'.dirty 1 _ b=none;unfold updI;rw[if_neg (by omega)];exact q
 ·rw[X3u h.full hi hi hn,if_pos rfl]
end
theorem Big.trans{i:Nat}{P P' Q:Nat->Prop}{F F' G G':List Nat}{S S' S'':StoreD}(h:Big i P F G S S')(k:Big i P' F' G' S' S'')(hG:∀b,b∈F'->b∉G)(hP:∀b,P' b->P b\/b∈F\/Q b):Big i (fun b=>P b\/Q b) (F++F') (G++G') S S'':=by
 refine⟨by rw[k.same,h.same],k.full,fun j hj hne=>(k.root j hj hne).trans (h.root j hj hne),fun b h1 h2 h3=> ?_,fun b=> ?_,fun b h1 h2=> ?_⟩
 ·rw[List.mem_append,not_or]at h3;refine(k.view b h1 (fun q=> ?_) h3.2).trans (h.view b h1 (fun q=>h2 (.inl q)) h3.1);rcases hP b q with q | q | q
  ·exact h2 (.inl q)
  ·exact h3.1 q
  ·exact h2 (.inr q)
 ·rw[k.used,h.used,List.mem_append,List.mem_append];have:=hG b;constructor
  ·rintro⟨⟨q1,q2⟩ | q1,q3⟩
   ·exact⟨q1.imp_right Or.inl,fun q=>q.elim q2 q3⟩
   ·exact⟨.inr (.inr q1),fun q=>q.elim (this q1) q3⟩
  ·rintro⟨q1,q2⟩;rw[not_or]at q2;rcases q1 with q1 | q1 | q1
   ·exact⟨.inl ⟨.inl q1,q2.1⟩,q2.2⟩
   ·exact⟨.inl ⟨.inr q1,q2.1⟩,q2.2⟩
   ·exact⟨.inr q1,q2.2⟩
 ·rw[List.mem_append];rcases k.dirt b h1 h2 with q | q | q
  ·rcases h.dirt b h1 q with r | r | r
   ·exact .inl r
   ·exact .inr (.inl (.inl r))
   ·exact .inr (.inr (.inl r))
  ·rcases hP b q with q | q | q
   ·exact .inr (.inl (.inl q))
   ·exact .inr (.inr (.inl q))
   ·exact .inr (.inl (.inr q))
  ·exact .inr (.inr (.inr q))
inductive TrD where
 | no
 | yes (d:Nat) (t:TT d)
def TrD.list:TrD->List KV
 | .no=> []
 | .yes d t=>Z0e d t
def TrD.pages:TrD->List Nat
 | .no=> []
 | .yes d t=>Z0a d t
def TrD.need:TrD->Nat
 | .no=>1
 | .yes d _=>d+2
def TrD.fine:TrD->Prop
 | .no=>True
 | .yes d _=>d<31
def TrS(S:StoreD)(i:Nat):TrD->Prop
 | .no=>Z1x S i=0
 | .yes d t=>Z1x S i=atT d t/\onT S d t/\okT d t/\(Z0a d t).Nodup
theorem TrS.given{S:StoreD}{i:Nat}:∀ {T:TrD},TrS S i T->∀b∈T.pages,Z0r S b
 | .no,_,b,hb=>by cases hb
 | .yes d t,h,b,hb=>Z0k d t h.2.1 b hb
theorem TrS.nd{S:StoreD}{i:Nat}:∀ {T:TrD},TrS S i T->T.pages.Nodup
 | .no,_=>List.nodup_nil
 | .yes _ _,h=>h.2.2.2
theorem TrS.rise{S:StoreD}{i:Nat}:∀ {T:TrD},TrS S i T->Z6u T.list
 | .no,_=>List.Pairwise.nil
 | .yes d t,h=>Z4t d t h.2.2.1
theorem TrS.keys{S:StoreD}{i:Nat}:∀ {T:TrD},TrS S i T->∀x∈T.list,Z3a x.1/\x.2.size<=80
 | .no,_,x,hx=>by cases hx
 | .yes d t,h,x,hx=>⟨Y8t d t h.2.2.1 _ (Z4z d t x hx),X0j d t h.2.2.1 x hx⟩
theorem TrS.other{i j:Nat}{P:Nat->Prop}{F G:List Nat}{S S':StoreD}(hb:Big i P F G S S')(hj:j<16)(hne:j≠i):∀ {T:TrD},TrS S j T->(∀b∈T.pages,¬P b/\b∉F/\b∉G)->TrS S' j T
 | .no,h,_=>by show Z1x S' j=0;rw[hb.root j hj hne];exact h
 | .yes d t,h,hp=>⟨by rw[hb.root j hj hne];exact h.1,Y4f hb.frm d t h.2.1 hp,h.2.2⟩
def Y1x(S:StoreD)(i:Nat)(k v:ByteArray)(S':StoreD)(T':TrD):TrD->Prop
 | .no=>∃a,lowS S=some a/\S'=Z0p (layP (Z1f S a) a (Z5a k v)) i a/\T'= .yes 0 (LeafT.mk a [k] [v])
 | .yes d t=>∃S1 t' o,PutR d S t k v S1 t' o/\match o with
   | none=>S'=S1/\T'= .yes d t'
   | some x=>∃top,lowS S1=some top/\S'=Z0p (layP (Z1f S1 top) top ⟨false,[x.1],[],[(atT d t':Int),(atT d x.2:Int)]⟩) i top/\T'= .yes (d+1) (InT.mk top [x.1] [t',x.2])
structure PutTL (S:StoreD) (i:Nat) (T:TrD) (k v:ByteArray) (S':StoreD) (T':TrD) (F:List Nat):Prop where
 big:Big i (fun b=>b∈T.pages) F [] S S'
 nd:F.Nodup
 fresh:∀b∈F,Z0z S b=false/\2<=b/\b<S.head.pages
 len:F.length<=T.need
 tr:TrS S' i T'
 pages:T'.pages.Perm (T.pages++F)
 list:T'.list=Z6t T.list k v
theorem Y3r{S S':StoreD}{i:Nat}{k v:ByteArray}{T T':TrD}(hi:i<16)(h:Y1x S i k v S' T' T)(hf:Fm S)(ht:TrS S i T)(hk:Z3a k)(hv:v.size<=80):∃F,PutTL S i T k v S' T' F:=by
 have hm:=hf.most;cases T with
 | no=>
   obtain⟨a,ha,rfl,rfl⟩:=h;obtain⟨r1,r2,r3⟩:=Z4y ha;have hk2:=hk.2;have hnk:NodeOk (Z5a k v):=⟨fun x hx=>by simp[Z5a]at hx;subst hx;omega,fun x hx=>by simp[Z5a]at hx;subst hx;omega,fun c hc=>by simp[Z5a]at hc,by simp[Z5a],fun _=>⟨rfl,rfl⟩,fun q=>by cases q⟩;have hsz:Z0m (Z5a k v)<=256:=by simp[Z0m,Z5a,Z0n];omega
   have t1:=Z6z hf.full r1 (by omega:a<2048);have g1:Z0r (Z1f S a) a:=t1.givenF r1 r2 (by simp) (by simp);have t2:=Z5m t1.full r1 hnk hsz;have p2:=Z4e g1 hnk hsz;have t12:=t1.trans (Q:=fun _=>False) t2 (fun b q=>by cases q) (fun b q=> .inr (.inl (by subst q;simp)));obtain⟨t3,hr3⟩:=Stp.setRoot (i:=i) (n:=a) t12 hi (by omega);have hp:PageN (Z0p (layP (Z1f S a) a (Z5a k v)) i a) a (Z5a k v):=
    ⟨⟨r1,r2,by rw[Y7e];exact p2.given.2.2⟩,p2.ok,p2.fits,by rw[Y7d _ _ _ _ (by omega)];exact p2.view⟩
   refine⟨[a],⟨?_,by simp,fun b q=> ?_,by simp[TrD.need],⟨hr3,hp,⟨List.pairwise_singleton _ _,rfl,fun x hx=> ?_,fun x hx=> ?_⟩,by simp[Z0a]⟩,List.Perm.refl _,?_⟩⟩
   ·have:=t3.mono (P':=fun b=>b∈TrD.pages .no) (fun b q=>(q.elim id id).elim);simpa using this
   ·simp only[List.mem_singleton]at q;subst q;exact⟨r3,r1,r2⟩
   ·simp only[List.mem_singleton]at hx;subst hx;exact hk
   ·simp only[List.mem_singleton]at hx;subst hx;exact hv
   ·rfl
 | yes d t=>
   obtain⟨hr,hon,hok,hnd⟩:=ht;obtain⟨S1,t',o,h1,h2⟩:=h;obtain⟨F,q⟩:=Z5i d h1 hf hon hok hk hv hnd;have hun:∀b,Z0z S b=true->b∉F:=fun b hb r=>by rw[(q.fresh b r).1]at hb;cases hb
   have hnd':(Z0a d t'++Z8n d o).Nodup:=by refine q.pages.nodup_iff.2 ?_;rw[List.nodup_append];exact⟨hnd,q.nd,fun a ha b hb e=>by subst e;exact hun a (Z0k d t hon a ha).2.2 hb⟩
   cases o with
   | none=>
     obtain⟨rfl,rfl⟩:=h2;have e1:Z8n d none= []:=rfl;have e2:X7i d none= []:=rfl;refine⟨F,⟨q.stp.big i,q.nd,q.fresh,Nat.le_succ_of_le q.len,⟨by rw[q.stp.root,q.at_];exact hr,q.on,q.ok,by rw[e1,List.append_nil]at hnd';exact hnd'⟩,?_,?_⟩⟩
     ·have:=q.pages;rwa [e1,List.append_nil]at this
     ·have:=q.list;rwa [e2,List.append_nil]at this
   | some x=>
     obtain⟨mid,r⟩:=x;obtain⟨top,htop,rfl,rfl⟩:=h2;have hR:=q.right mid r rfl;have hf1:=hf.stp q.stp (fun b q=>by cases q);obtain⟨r1,r2,r3⟩:=Z4y htop;have hm1:=hf1.most;have hmk:Z3a mid:=Y8g hok hk mid hR.key;have hmk2:=hmk.2;have ga:=Z0k d t' q.on _ (Z0q d t');have gr:=Z0k d r hR.on _ (Z0q d r);have hnk:NodeOk ⟨false,[mid],[],[(atT d t':Int),(atT d r:Int)]⟩:=by
      refine⟨fun x hx=> ?_,fun x hx=>by simp at hx,fun c hc=> ?_,by simp,(fun q=>by cases q),fun _=>⟨rfl,rfl⟩⟩
      ·simp only[List.mem_singleton]at hx;subst hx;omega
      ·have:=ga.2.1;have:=gr.2.1;simp only[List.mem_cons,List.not_mem_nil,or_false]at hc;rcases hc with rfl | rfl<;>exact⟨by omega,by omega⟩
     have hsz:Z0m ⟨false,[mid],[],[(atT d t':Int),(atT d r:Int)]⟩<=256:=by simp[Z0m,Z0n];omega
     have t1:=Z6z hf1.full r1 (by omega:top<2048);have g1:Z0r (Z1f S1 top) top:=t1.givenF r1 r2 (by simp) (by simp);have t2:=Z5m t1.full r1 hnk hsz;have p2:=Z4e g1 hnk hsz;have t12:=t1.trans (Q:=fun _=>False) t2 (fun b q=>by cases q) (fun b q=> .inr (.inl (by subst q;simp)));obtain⟨t3,hr3⟩:=Stp.setRoot (i:=i) (n:=top) t12 hi (by omega);have tA:=(q.stp.big i).trans (Q:=fun _=>False) t3 (fun b _=>by simp) (fun b r=> .inr (.inr ((r.elim id id))));have hkid:∀c,onT S1 d c->onT (Z0p (layP (Z1f S1 top) top ⟨false,[mid],[],[(atT d t':Int),(atT d r:Int)]⟩) i top) d c:=fun c hc=>
      Y4f t3.frm d c hc (fun b hb=>by
       have hu:=(Z0k d c hc b hb).2.2;refine⟨fun r=>(r.elim id id).elim,?_,by simp⟩;simp only[List.append_nil,List.mem_singleton];intro e;subst e;rw[r3]at hu;cases hu)
     have hp:PageN (Z0p (layP (Z1f S1 top) top ⟨false,[mid],[],[(atT d t':Int),(atT d r:Int)]⟩) i top) top ⟨false,[mid],[],[(atT d t':Int),(atT d r:Int)]⟩:=
      ⟨⟨r1,r2,by rw[Y7e];exact p2.given.2.2⟩,p2.ok,p2.fits,by rw[Y7d _ _ _ _ (by omega)];exact p2.view⟩
     have htf:Z0z S top=false/\top∉F:=by
      have:=q.stp.used top;constructor
      ·cases e:Z0z S top with
       | false=>rfl
       | true=>rw[this.2 ⟨.inl e,by simp⟩]at r3;cases r3
      ·intro e;rw[this.2 ⟨.inr e,by simp⟩]at r3;cases r3
     have hflat:(([t',r]:List (TT d)).flatMap (Z0a d))=Z0a d t'++Z0a d r:=by simp
     have hpo:Z8n d (some (mid,r))=Z0a d r:=rfl;rw[hpo]at hnd';refine⟨F++ [top],⟨?_,?_,fun b hb=> ?_,?_,⟨hr3,⟨hp,fun c hc=> ?_⟩,⟨List.pairwise_singleton _ _,rfl,fun x hx=> ?_,fun c hc=> ?_,Z2g.2 (fun j c hc x hx i' s hs=> ?_),fun j c hc x hx i' s hs hij=> ?_⟩,?_⟩,?_,?_⟩⟩
     ·have:=tA.mono (P':=fun b=>b∈TrD.pages (.yes d t)) (fun b r=>r.elim id False.elim);simpa using this
     ·rw[List.nodup_append];exact⟨q.nd,by simp,fun a ha b hb e=>by simp only[List.mem_singleton]at hb;subst hb;subst e;exact htf.2 ha⟩
     ·rcases List.mem_append.1 hb with hb | hb
      ·exact q.fresh b hb
      ·simp only[List.mem_singleton]at hb;subst hb;rw[q.stp.head]at r2;exact⟨htf.1,r1,r2⟩
     ·rw[aA];have:=q.len;simp only[aK,TrD.need];omega
     ·simp only[List.mem_cons,List.not_mem_nil,or_false]at hc;rcases hc with rfl | rfl
      ·exact hkid _ q.on
      ·exact hkid _ hR.on
     ·simp only[List.mem_singleton]at hx;subst hx;exact hmk
     ·simp only[List.mem_cons,List.not_mem_nil,or_false]at hc;rcases hc with rfl | rfl
      ·exact q.ok
      ·exact hR.ok
     ·match i',hs with
      | 0,hs=>
        injection hs with hs;subst hs
        match j,hc with
        | 0,hc=>injection hc with hc;subst hc;exact⟨fun q=>by omega,fun _=>hR.below x hx⟩
        | 1,hc=>injection hc with hc;subst hc;exact⟨fun _=>hR.above x hx,fun q=>by omega⟩
     ·match i',hs with
      | 0,hs=>
        injection hs with hs;subst hs
        match j,hc with
        | 0,hc=>omega
        | 1,hc=>injection hc with hc;subst hc;exact hR.sabove x hx
     ·show(top::([t',r]:List (TT d)).flatMap (Z0a d)).Nodup;rw[hflat,List.nodup_cons];refine⟨fun hb=> ?_,hnd'⟩;have hu:Z0z S1 top=true:=by
       rcases List.mem_append.1 hb with hb | hb
       ·exact(Z0k d t' q.on _ hb).2.2
       ·exact(Z0k d r hR.on _ hb).2.2
      rw[r3]at hu;cases hu
     ·show(top::([t',r]:List (TT d)).flatMap (Z0a d)).Perm (Z0a d t++(F++ [top]));rw[hflat,<-aG];exact(List.Perm.cons top q.pages).trans (List.perm_append_singleton _ _).symm
     ·show([t',r]:List (TT d)).flatMap (Z0e d)=Z6t (Z0e d t) k v;rw[<-q.list];simp[X7i]
def getV:Option ByteArray->Value
 | some v=> .tuple #[.string v,.int .i64 0]
 | none=> .tuple #[.string ⟨#[]⟩,.int .i64 6]
theorem Y6m{l:List KV}{k:ByteArray}(h:∀x∈l,x.1≠k):Y1p l k=none:=by unfold Y1p;rw[List.find?_eq_none.2 (fun x hx=>by rw[Z2j (h x hx)];decide)];rfl
theorem Y1o{l:List KV}{k v:ByteArray}(hr:Z6u l)(h:(k,v)∈l):Y1p l k=some v:=by
 obtain⟨i,hi,he⟩:=List.mem_iff_getElem.1 h;have hp:=List.pairwise_iff_getElem.1 hr;unfold Y1p;have:l.find? (fun x=>eqB x.1 k)=some (k,v):=by rw[List.find?_eq_some_iff_getElem];refine⟨(Z7p k k).2 rfl,i,hi,he,fun j hj=> ?_⟩;have h1:=hp j i (by omega) hi hj;rw[he]at h1;rw[Z2j (Z2m h1)];rfl
 rw[this];rfl
theorem V2t(t:LeafT)(h:okT 0 t)(k:ByteArray):getN (Z0c 0 t) k=getV (Y1p (Z0e 0 t) k):=by
 have hl:(LeafT.vals t).length=(LeafT.keys t).length:=h.2.1;unfold getN;cases hh:hasB (Z0c 0 t).keys k with
 | true=>
   obtain⟨hp,he⟩:=Z5j (l:=LeafT.keys t) h.1 hh;have hv:posB (LeafT.keys t) k<(LeafT.vals t).length:=by omega
   rw[if_pos rfl];have hm:(k,(LeafT.vals t)[posB (LeafT.keys t) k])∈Z0e 0 t:=by
    show _∈(LeafT.keys t).zip (LeafT.vals t);have hz:posB (LeafT.keys t) k<((LeafT.keys t).zip (LeafT.vals t)).length:=by rw[List.length_zip];omega
    have:=List.getElem_mem hz;rw[List.getElem_zip,he]at this;exact this
   rw[Y1o (Z4t 0 t h) hm];show Value.tuple #[.string ((LeafT.vals t)[posB (LeafT.keys t) k]?.getD ⟨#[]⟩),.int .i64 0]=_;rw[aB hv];rfl
 | false=>
   rw[if_neg (by decide),Y6m (fun x hx e=> ?_)]
   ·rfl
   ·have h1:=Z4z 0 t x hx;rw[e]at h1;have h2:=(Z6j (LeafT.keys t) k).2 h1;have hh':hasB (LeafT.keys t) k=false:=hh;rw[h2]at hh';cases hh'
theorem V0s{S:StoreD}(k:ByteArray):∀(d:Nat) (t:TT d),onT S d t->okT d t->∃n,V8u S k d (atT d t) n/\getN n k=getV (Y1p (Z0e d t) k)
 | 0,t,h,hok=>⟨Z0c 0 t,⟨h,rfl,hok.1⟩,V2t t hok k⟩
 | d+1,t,h,hok=>by
   have hj:Z0g (InT.keys t) k<(InT.kids t).length:=by have:=Z4o (k:=k) hok.1;have:=hok.2.1;omega
   obtain⟨n,h1,h2⟩:=V0s k d _ (h.2 _ (List.getElem_mem hj)) (hok.2.2.2.1 _ (List.getElem_mem hj));refine⟨n,⟨Z0c (d+1) t,h.1,rfl,hok.1,?_⟩,?_⟩
   ·have e:((Z0c (d+1) t).kids[Z0g (Z0c (d+1) t).keys k]?.getD 0)=(atT d (InT.kids t)[Z0g (InT.keys t) k]:Int):=by show(((InT.kids t).map fun c=>(atT d c:Int))[Z0g (InT.keys t) k]?).getD 0=_;rw[List.getElem?_map,aB hj];rfl
    rw[e,Int.toNat_natCast];exact h1
   ·obtain⟨a1,a2⟩:=Y6x (t:=t) hok k;rw[h2]
    congr 1
    show _=Y1p ((InT.kids t).flatMap (Z0e d)) k;rw[Z6k (Z0e d) (InT.kids t) hj,V2w a1 a2]
theorem X3m{tr p i:Nat}{F:Nat->Prop}{S:StoreD}(T:TrD)(k:ByteArray)(w:World)(ht:Z0b w tr p i)(hnt:¬F tr)(h:PagerAt w p F S)(hi:i<16)(hT:TrS S i T)(hd:T.fine):
  Calls Tryz.prog 77 #[.pointer (some ⟨tr,0,none⟩),.string k] w fun e w'=>e= .returned (getV (Y1p T.list k))/\∃F',PagerAt w' p F' S/\Keeps F F' w w':=by
 cases T with
 | no=>exact V7m k w ht hnt h hi hT
 | yes d t=>
   obtain⟨hr,hon,hok,hnd⟩:=hT;obtain⟨n,h1,h2⟩:=V0s k d t hon hok;have hd':d<31:=hd;have:=U0s (atT d t) d k n w ht hnt h hi hr (by have:=(Z0k d t hon _ (Z0q d t)).1;omega) h1 (by omega);rw[h2]at this;exact this
def pgN(n room:Nat):Nat:=min (n-2-room) 1024
def Z5b(n room:Nat):HeadD:=⟨2,0,room,pgN n room⟩
def Y6n(n room:Nat):StoreD:=⟨fmtD n room (pgN n room),Z5b n room,X0c,false⟩
theorem V0w(h:HeadD):padB (Z5z h)=bts (Z1g h++notL (Z1g h)++List.replicate 216 0):=by rw[<-Y2r (Z5z h) 216 (by rw[Z8g]) (by rw[Z8g];omega)];unfold Z5z;rw[ByteArray.ext_iff,ByteArray.data_append];simp[bts]
theorem X7w(n room pages:Nat)(hn:2<=n):Z0y (fmtD n room pages) 0=padB (Z5z ⟨2,0,room,pages⟩):=by unfold Z0y fmtD Z2y;simp[List.getElem?_set,show 0<n from by omega]
theorem Y6q(n room pages:Nat)(hn:2<=n):Z0y (fmtD n room pages) 1=zeroB:=by unfold Z0y fmtD Z2y;simp[List.getElem?_set,show 1<n from by omega]
theorem V3b(n room pages:Nat):(fmtD n room pages).blocks.length=n:=by simp[fmtD]
theorem X4d:Z4k zeroB=(zeroH,false):=by
 have h:=X6u;unfold Z4k at h ⊢;split at h
 ·simp at h
 ·rename_i hc
  rw[if_neg hc];rfl
theorem X5a{n room:Nat}(hr1:1<=room)(hr2:room+3<=n)(hn:n<=2048):HeadOk (Z5b n room):=⟨by simp[Z5b],by simp[Z5b],by dsimp only[Z5b,pgN];omega,by dsimp only[Z5b,pgN];omega⟩
theorem Y4o{n room:Nat}(hr1:1<=room)(hr2:room+3<=n)(hn:n<=2048):Z4k (Z0y (fmtD n room (pgN n room)) 0)=(Z5b n room,true):=by rw[X7w _ _ _ (by omega),V0w];exact X6v (Z5b n room) (X5a hr1 hr2 hn) _
theorem X7t{n room:Nat}(hr1:1<=room)(hr2:room+3<=n)(hn:n<=2048)(i:Nat)(hi:i<2):X5u (fmtD n room (pgN n room)).blocks.length (Z0y (fmtD n room (pgN n room)) i):=by
 rw[V3b];rcases(show i=0\/i=1 from by omega)with rfl | rfl
 ·exact .inr ⟨_,Y4o hr1 hr2 hn,⟨X5a hr1 hr2 hn,hr1,by dsimp only[Z5b,pgN];omega,by dsimp only[Z5b,pgN];omega,Nat.zero_le _,by dsimp only[Z5b,pgN];omega⟩⟩
 ·exact .inl (by rw[Y6q _ _ _ (by omega)];exact X4d)
theorem X0o{n room:Nat}(hr1:1<=room)(hr2:room+3<=n)(hn:n<=2048):Y1i (fmtD n room (pgN n room))=(Z5b n room,true):=by
 have h1:Z4k (Z0y (fmtD n room (pgN n room)) 1)=(zeroH,false):=by rw[Y6q _ _ _ (by omega)];exact X4d
 have h0:=Y4o hr1 hr2 hn;unfold Y1i Z3t Z3t Z3t;rw[h1,h0];rw[if_neg (by simp),if_pos ⟨rfl,by simp[zeroH,Z5b],by simp[Z5b]⟩]
def Z1j(n room:Nat):StoreD:=fmtP (Y6n n room)
theorem X6t(n room:Nat):Live (Y6n n room):=⟨rfl,rfl⟩
theorem X4b(n room i:Nat):TrS (Z1j n room) i .no:=V5j _ i
theorem X4c{n room:Nat}(hf:FullV (Z1j n room)):Fm (Z1j n room):=⟨hf,by unfold Z1j;rw[Z9k];rfl,by unfold Z1j;rw[Z9k];rfl,Nat.min_le_right _ _⟩
theorem Y9g(S:StoreD):∀n,Z1r (fmtP S) n=min n 2
 | 0=>rfl
 | n+1=>by
   rw[Y3i,Y9g S n,Z9k];by_cases h:n<2
   ·rw[if_pos (decide_eq_true h)];omega
   ·rw[if_neg (by simp;omega)];omega
theorem Z7z(n room:Nat):Z0x (Z1j n room)=pgN n room-2:=by unfold Z0x Z1j;rw[Y9g];show pgN n room-min (pgN n room) 2=_;omega
def keyL(l:List Int):List UInt8:=l.flatMap ordL
theorem Z3y(l:List Int):(keyL l).length=8*l.length:=by
 induction l with
 | nil=>rfl
 | cons a r ih=>rw[keyL,aI,aA,<-keyL,ih,Z1v,List.length_cons];omega
def OfR(l:List Int):Value:=if 4<l.length then .tuple #[.string ⟨#[]⟩,.int .i64 22]else .tuple #[.string (bts (keyL l)),.int .i64 0]
theorem V8w{A:Option Addr}{n c:Nat}(l:List Int)(w:World)(h:Sl w 1 (fun x cs=>cs=encN x) (.slice A n c) l)(hl:∀x∈l,-9223372036854775808<=x/\x<=9223372036854775807)(hn:n<=1000000000000000000):
  Calls Tryz.prog 44 #[.slice A n c] w fun e w'=>e= .returned (OfR l)/\Ext w w':=by
 obtain⟨hnl,hc1,hc2,hx⟩:=h.at;have HR:Hid (OfR l=if 4<l.length then .tuple #[.string ⟨#[]⟩,.int .i64 22]else .tuple #[.string (bts (keyL l)),.int .i64 0]):=rfl;have HNL:=hD hnl;have HX:=hD hx;have HL:=hD hl;have hw8:IntKind.i64.wrap (8*(n:Int))=8*(n:Int):=by rw[IntKind.wrap_i64];omega
 clear h hnl hx hl;by_cases h4:4<n
 ·have T1:decide ((32:Int)<8*(n:Int))=true:=aN;go_enter Tryz.func44,Tryz.ntmps44;go_wp2_with fail
  go_ret2
  rw[HR.out,if_pos (by have:=HNL.out;omega)];exact⟨rfl,Ext.refl w⟩
 ·have T1:decide ((32:Int)<8*(n:Int))=false:=aM;go_enter Tryz.func44,Tryz.ntmps44;go_wp2_with fail
  go_loopw [4,13] (fun s x wr=>∃(k:Nat) (s9:ByteArray),k<=n/\x= .int .i64 k/\s= .string s9/\s9.size<=1000/\Hid (s9=bts (keyL (l.take k)))/\Ext w wr) (fun _ x _=>n-(intOf x).toNat)
  case atStart=>exact⟨0,⟨#[]⟩,by omega,rfl,rfl,by decide,rfl,Ext.refl w⟩
  case round=>
   obtain⟨k,s9,hk,rfl,rfl,hsz,hs9,hxr⟩:=hrel;have HXR:=hD hxr;clear hxr;by_cases hkn:k<n
   ·have q1:decide ((k:Int)<n)=true:=aN;have q2:(k:Int)<n:=by omega
    obtain⟨b,off,rfl,hb,hcell⟩:=HX.out (by have:=HNL.out;omega);obtain⟨cs,rfl,_,hcs⟩:=hcell k (by have:=HNL.out;omega);obtain⟨x,hx⟩:∃x,l[k]? =some x:=⟨_,aB (by have:=HNL.out;omega)⟩;have hxe:l[k]'(by have:=HNL.out;omega)=x:=by rw[aB (by have:=HNL.out;omega)]at hx;injection hx
    rw[hxe]at hcs;have z0:wr.cell? ⟨b,off+k,none⟩=some (.int .i64 x):=(HXR.out.cell (p:=⟨b,off+k,none⟩) hb).trans (by have:=hcs 0 _ rfl;simpa using this);have hxl:=HL.out x (List.mem_of_getElem? hx);have cO:=X1y x wr hxl.1 hxl.2;have hw1:IntKind.i64.wrap ((k:Int)+1)=(k:Int)+1:=by rw[IntKind.wrap_i64];omega
    have HS1:Hid (s9++bts (ordL x)=bts (keyL (l.take (k+1)))):=by unfold Hid;rw[hs9.out,Y1v,List.take_add_one,hx,keyL,keyL,aH];simp
    have hbz:(bts (ordL x)).size=8:=by rw[Z0h,Z1v]
    have HSZ:Hid ((s9++bts (ordL x)).size<=1000):=by rw[HS1.out,Z0h,Z3y,aD];show 8*(min (k+1) l.length)<=1000;omega
    generalize bts (ordL x)=bx at *;have hsum:¬9223372036854775807<s9.size+bx.size:=by omega
    clear hcell hcs hx hxe hxl;go_wp2_with (go_at_call 105;(with_reducible refine cO.mono ?_);clear cO;rintro e w2 ⟨rfl,hb2⟩;have HB2:=hD hb2;clear hb2)
    go_roundw
    case rel=>exact⟨k+1,s9++bx,by omega,by go_num,rfl,HSZ.out,HS1,Ext.trans HXR.out HB2.out⟩
    case measure=>simp only[intOf];omega
   ·obtain rfl:k=n:=by omega
    go_wp2_with fail
    go_ret2
    refine⟨?_,HXR.out⟩;rw[HR.out,if_neg (by have:=HNL.out;omega),hs9.out,HNL.out,List.take_length];rfl
theorem X9t(l:List Int)(w:World)(hl:∀x∈l,-9223372036854775808<=x/\x<=9223372036854775807)(hn:l.length<=4):
  Calls Tryz.prog 54 #[.string (bts (keyL l))] w fun e w'=>∃v,e= .returned (.tuple #[v,.int .i64 0])/\OwnL w' w.heap.size 3 1 encN v l/\Ext w w':=by
 have HL:=hD hl;obtain⟨s,hs⟩:∃s,bts (keyL l)=s:=⟨_,rfl⟩;have hsz:s.size=8*l.length:=by rw[<-hs,Z0h,Z3y]
 have T1:(s.size:Int)%8=0:=by omega
 have T1b:((s.size:Int)%8 !=0)=false:=by simp;omega
 have T2:decide ((32:Int)<(s.size:Int))=false:=aM;have HS:=hD hs;have HN:=hD hn;rw[hs];clear hl hs hsz hn;go_enter Tryz.func54,Tryz.ntmps54;go_wp2_with fail;clear T1 T1b
 go_loopw [0,4] (fun x v wr=>∃(k:Nat) (s9:ByteArray),k<=l.length/\x= .string s9/\Hid (s9.size=8*(l.length-k))/\Hid (s9=bts (keyL (l.drop k)))/\OwnL wr w.heap.size 3 1 encN v (l.take k)/\Ext w wr) (fun x _ _=>match x with | .string s=>s.size | _=>0)
 case atStart=>exact⟨0,s,by omega,rfl,hD (by rw[<-HS.out,Z0h,Z3y];rfl),HS.out.symm,OwnL.nil _ _ _ _ _,Ext.refl w⟩
 case round=>
  obtain⟨k,s9,hk,rfl,hsz,hs9,ho,hxr⟩:=hrel;obtain⟨T,hT⟩:∃T,l.take k=T:=⟨_,rfl⟩;have hTl:T.length=k:=by rw[<-hT,aD];omega
  rw[hT]at ho;obtain⟨A,c,rfl⟩:=ho.form;rw[hTl]at ho ⊢;have HO:=hD ho;have HT:=hD hT;have HTL:=hD hTl;have HXR:=hD hxr;have hz:=hxr.size;clear hT hTl;clear ho hxr;by_cases hkn:k<l.length
  ·have hne:¬s9.toList= []:=X3o (by have:=hsz.out;omega);have hke:s9.toList.isEmpty=false:=by cases h9:s9.toList with | nil=>exact absurd h9 hne | cons _ _=>rfl
   obtain⟨x,hx⟩:∃x,l[k]? =some x:=⟨_,aB hkn⟩;have hxl:=HL.out x (List.mem_of_getElem? hx);have hdr:keyL (l.drop k)=ordL x++keyL (l.drop (k+1)):=by obtain⟨h1,h2⟩:=aC.1 hx;rw[List.drop_eq_getElem_cons h1,h2,keyL,aI];rfl
   have e1:s9.extract 0 8=bts (ordL x):=by rw[hs9.out,hdr];exact Z9c [] (ordL x) _ 0 8 rfl (by rw[Z1v])
   have e2:s9.extract 8 s9.size=bts (keyL (l.drop (k+1))):=by rw[hs9.out,hdr];exact Z2l (ordL x) _ 8 _ (Z1v x) (by rw[Z0h,aA,Z1v])
   have cU:=Y7h (bts (ordL x)) (by rw[Z0h,Z1v]) wr;rw[show (bts (ordL x)).data.toList=ordL x by simp[bts],Y9b x hxl.1 hxl.2]at cU;have HTK:Hid (l.take (k+1)=l.take k++ [x]):=by unfold Hid;rw[List.take_add_one,hx];rfl
   have HE2:=hD (show s9.extract 8 s9.size=bts (keyL (l.drop (k+1)))from e2);obtain⟨s8,hs8⟩:∃s8,s9.extract 8 s9.size=s8:=⟨_,rfl⟩;have HS8:Hid (s8=bts (keyL (l.drop (k+1)))):=hs8▸e2;have HZ8:Hid (s8.size=8*(l.length-(k+1))):=by unfold Hid;rw[HS8.out,Z0h,Z3y,aJ]
   rw[hs8]at e2;have h8:8<=s9.size:=by have:=hsz.out;omega
   have h8i:(8:Int)<=s9.size:=by omega
   generalize bts (ordL x)=bx at *;have HTL1:Hid ((T++ [x]).length=k+1):=by unfold Hid;rw[aA,HTL.out];rfl
   have HLT:Hid (T.length<=4):=by have:=HN.out;have:=HTL.out;unfold Hid;omega
   clear hx hdr e2 hxl;go_wp2_with (first
    | (go_at_call 110;(with_reducible refine cU.mono ?_);clear cU;rintro e w2 ⟨rfl,rfl⟩)
    | (at_builtin;refine Z0u elInt Z0i Z2o rfl (.tmp 26) (.tmp 28) rfl (.slice A k c) T rfl (HO.out.ext (by exact Xt)) (by simp;omega) _ 1 x rfl (Row1.made' (by simp) _ (encN x)) (by have:=HLT.out;omega) (by decide) ?_;intro A' c' w2 hown2 hgr hwh;rw[HTL1.out]at hown2 ⊢;have HO2:=hD hown2;have HG2:=hD (OwnL.grown (HO.out.ext (by exact Xt)) (Ext.trans HXR.out (by exact Xt)) hgr (aF _));clear hown2 hgr hwh))
   go_roundw
   case rel=>exact⟨k+1,s8,by omega,rfl,HZ8,HS8,by rw[HTK.out,HT.out];exact HO2.out,HG2.out⟩
   case measure=>show s8.size<s9.size;have:=HZ8.out;have:=hsz.out;omega
  ·obtain rfl:k=l.length:=by omega
   have hs0:s9=⟨#[]⟩:=by apply Y5a;rw[hs9.out,List.drop_length];rfl
   subst hs0;go_wp2_with fail
   go_ret2
   exact⟨_,rfl,by have h9:=HO.out;rw[<-HT.out,List.take_length]at h9;exact h9,HXR.out⟩
theorem X9j{p i:Nat}{F:Nat->Prop}{S:StoreD}(w:World)(h:PagerAt w p F S)(hi:i<16):
  Calls Tryz.prog 28 #[.pointer (some ⟨p,0,none⟩),.int .i64 i] w fun e w'=>∃t F',e= .returned (.tuple #[.pointer (some ⟨t,0,none⟩),.int .i64 0])/\Z0b w' t p i/\PagerAt w' p F' S/\Keeps F F' w w'/\¬F' t/\w.heap.size<=t:=by
 have cR:=Y7s i w h hi;clear h hi;go_enter Tryz.func28,Tryz.ntmps28;go_wp2_with (go_at_call 75;(with_reducible refine cR.mono ?_);clear cR;rintro e w1 ⟨rfl,F1,hp1,hk1⟩;have HP1:=hD hp1.shrink;have HK1:=hD (Keeps.shrink (P:=fun i=>i<w1.heap.size) hk1);clear hp1 hk1)
 go_ret2
 exact⟨w1.heap.size,_,rfl,Row1.made w1 _ _,HP1.out.ext (Ext.alloc _ _),HK1.out.ext (Ext.alloc _ _),fun q=>absurd q.2 (Nat.lt_irrefl _),HK1.out.only.size⟩
abbrev tp(t:Nat):Value:= .pointer (some ⟨t,0,none⟩)
def tblC(ts:Nat->Nat)(k:Nat):List Value:=(List.range 5).map fun j=>if j<k then tp (ts j)else .pointer none
theorem Y3h(ts:Nat->Nat)(k j:Nat)(hj:j<5):(tblC ts k)[j]? =some (if j<k then tp (ts j)else .pointer none):=by unfold tblC;rw[List.getElem?_map,List.getElem?_range hj];rfl
theorem V4z(ts:Nat->Nat)(k t:Nat)(hk:k<5):(tblC ts k).set k (tp t)=tblC (fun j=>if j=k then t else ts j) (k+1):=by
 apply List.ext_getElem?;intro j;by_cases hj:j<5
 ·rw[Y3h _ _ _ hj,List.getElem?_set,Y3h _ _ _ hj];have hl:(tblC ts k).length=5:=by simp[tblC]
  by_cases e:k=j
  ·subst e;rw[if_pos rfl,if_pos (by rw[hl];exact hk),if_pos (by omega),if_pos rfl]
  ·rw[if_neg e];by_cases h:j<k
   ·rw[if_pos h,if_pos (by omega),if_neg (by omega)]
   ·rw[if_neg h,if_neg (by omega)]
 ·rw[List.getElem?_eq_none (by simp[tblC];omega),List.getElem?_eq_none (by simp[tblC];omega)]
abbrev X5t(w:World)(tb:Nat)(ts:Nat->Nat):Prop:=Row1 w tb 174 (tblC ts 5)
structure TblAt (w:World) (tb p:Nat) (ts:Nat->Nat) (F:Nat->Prop):Prop where
 row:X5t w tb ts
 tree:∀j,j<5->Z0b w (ts j) p j
 out:¬F tb
 outs:∀j,j<5->¬F (ts j)
structure OpnR (w:World) (p:Nat) (F:Nat->Prop) (S:StoreD) (k:Nat) (wr:World) (ts:Nat->Nat) (F1:Nat->Prop):Prop where
 row:Row1 wr w.heap.size 174 (tblC ts k)
 pag:PagerAt wr p F1 S
 keep:Keeps F F1 w wr
 out:¬F1 w.heap.size
 tree:∀j,j<k->Z0b wr (ts j) p j/\¬F1 (ts j)/\w.heap.size<ts j
theorem Y9f{p:Nat}{F:Nat->Prop}{S:StoreD}(w:World)(h:PagerAt w p F S):
  Calls Tryz.prog 65 #[.pointer (some ⟨p,0,none⟩)] w fun e w'=>∃tb ts F',e= .returned (.tuple #[.pointer (some ⟨tb,0,none⟩),.int .i64 0])/\TblAt w' tb p ts F'/\PagerAt w' p F' S/\Keeps F F' w w'/\w.heap.size<=tb/\∀j,j<5->w.heap.size<=ts j:=by
 have HP:=hD h.shrink;clear h;go_enter Tryz.func65,Tryz.ntmps65;go_wp2_with fail
 go_loopw [10] (fun i wr=>∃k ts F1,k<=5/\i= .int .i64 (k:Nat)/\OpnR w p F S k wr ts F1) (fun i _=>5-(intOf i).toNat)
 case atStart=>exact⟨0,fun _=>0,_,by omega,rfl,⟨Row1.made' rfl _ (tblC (fun _=>0) 0),HP.out.ext (by exact Xt),(Keeps.of (by exact Xt)).shrink,fun q=>absurd q.2 (Nat.lt_irrefl _),fun j hj=>absurd hj (by omega)⟩⟩
 case round=>
  obtain⟨k,ts,F1,hk,rfl,hr⟩:=hrel;have HR:=hD hr;clear hr;by_cases hkl:k<5
  ·have q1:decide ((k:Int)<5)=true:=aN;have cO:=X9j (i:=k) wr HR.out.pag (by omega);go_upto_region 8 with (go_at_call 28;(with_reducible refine cO.mono ?_);clear cO;rintro e w1 ⟨t,F2,rfl,ht1,hp1,hk1,hn1,hs1⟩);have hR1:=hk1.only.row HR.out.row HR.out.out;have c0:w1.cell? ⟨w.heap.size,k,none⟩=some (.pointer none):=by rw[hR1.cell k,Y3h _ _ _ hkl,if_neg (by omega)]
   have f0:w1.frozen? ⟨w.heap.size,k,none⟩=false:=hR1.soft k;have hsz:=hk1.only.size;have hgl:=HR.out.row.lt;have HREL:Hid (∀W,W=w1.setCell ⟨w.heap.size,k,none⟩ (tp t)->OpnR w p F S (k+1) W (fun j=>if j=k then t else ts j) (fun i=>F2 i/\i<w1.heap.size)):=by
    rintro W rfl;have hout:¬F2 w.heap.size:=hk1.out hgl HR.out.out;refine⟨?_,hp1.shrink.only (Only.setCell (F:=fun i=>i=w.heap.size) (p:=⟨w.heap.size,k,none⟩) Only.refl (.inl rfl) _) (fun i q e=>hout (e▸q.1)),⟨((HR.out.keep.trans hk1).only.setCell (p:=⟨w.heap.size,k,none⟩) (.inr (aF _)) _),(Keeps.shrink (HR.out.keep.trans hk1)).new⟩,fun q=>hout q.1,fun j hj=> ?_⟩
    ·rw[<-V4z _ _ _ hkl];exact hR1.set k _
    ·by_cases e:j=k
     ·subst e;rw[if_pos rfl];exact⟨ht1.setFar (fun e=>absurd hs1 (by rw[e];exact Nat.not_le.2 hgl)) _,fun q=>hn1 q.1,by omega⟩
     ·rw[if_neg e];have h1:=HR.out.tree j (by omega);have h2:=hk1.only.row h1.1 h1.2.1;exact⟨h2.setFar (fun e=>absurd h1.2.2 (by rw[e];exact Nat.lt_irrefl _)) _,fun q=>hk1.out h1.1.lt h1.2.1 q.1,h1.2.2⟩
   clear ht1 hp1 hk1 hn1;go_wp2_with fail
   go_roundw
   case rel=>exact⟨k+1,_,_,by omega,by go_num,HREL.out _ rfl⟩
   case measure=>simp[intOf];omega
  ·obtain rfl:k=5:=by omega
   go_wp2_with fail
   go_ret2
   have h1:=HR.out;exact⟨_,ts,F1,rfl,⟨h1.row,fun j hj=>(h1.tree j hj).1,h1.out,fun j hj=>(h1.tree j hj).2.1⟩,h1.pag,h1.keep,aF _,fun j hj=>Nat.le_of_lt (h1.tree j hj).2.2⟩
theorem X1m{p:Nat}{F:Nat->Prop}{S:StoreD}(w:World)(h:PagerAt w p F S):
  Calls Tryz.prog 65 #[.pointer (some ⟨p,0,none⟩)] w fun e w'=>∃tb ts F',e= .returned (.tuple #[.pointer (some ⟨tb,0,none⟩),.int .i64 0])/\TblAt w' tb p ts F'/\PagerAt w' p F' S/\Keeps F F' w w'/\w.heap.size<=tb:=
 (Y9f w h).mono (fun e w' ⟨tb,ts,F',q1,q2,q3,q4,q5,_⟩=>⟨tb,ts,F',q1,q2,q3,q4,q5⟩)
theorem Z2f{tb:Nat}{ts:Nat->Nat}(w:World)(h:X5t w tb ts):Calls Tryz.prog 85 #[.pointer (some ⟨tb,0,none⟩)] w fun e w'=>e= .returned (.bool true)/\w=w':=by have c0:w.cell? ⟨tb,0,none⟩=some (tp (ts 0)):=h.cell 0;clear h;go_enter Tryz.func85,Tryz.ntmps85;go_wp2_with fail;go_ret;exact⟨rfl,rfl⟩
def endI(o:OpD):Int:=if o.done=true then o.ret else 1099511627777
def wayL(i:Nat)(o:OpD):List Int:=match i with
 | 0=> [o.id]
 | 1=> [o.object,o.invoke,o.id]
 | 2=> [o.object,endI o,o.id]
 | 3=> [o.proc,o.invoke,o.id]
 | _=> [o.method,o.id]
def wayK(i:Nat)(o:OpD):ByteArray:=bts (keyL (wayL i o))
def In64(x:Int):Prop:= -9223372036854775808<=x/\x<=9223372036854775807
theorem Y2l(i:Nat)(o:OpD):1<=(wayL i o).length/\(wayL i o).length<=3:=by unfold wayL;split<;>simp
theorem Z6w(i:Nat)(o:OpD):Z3a (wayK i o):=by unfold Z3a wayK;rw[Z0h,Z3y];have:=Y2l i o;omega
theorem Z5y(l:List Int)(W:World)(h4:l.length<=4)(hl:∀x∈l,In64 x):
  Calls Tryz.prog 44 #[.slice (some ⟨W.heap.size,0,none⟩) l.length l.length] (W.alloc (.cells (l.map (fun x=>Value.int .i64 x)).toArray 3)) fun e w'=>e= .returned (.tuple #[.string (bts (keyL l)),.int .i64 0])/\Ext W w':=by
 have hs:Sl (W.alloc (.cells (l.map (fun x=>Value.int .i64 x)).toArray 3)) 1 (fun x cs=>cs=encN x) (.slice (some ⟨W.heap.size,0,none⟩) l.length l.length) l:=by
  refine Sl.laid (Row1.made W 3 _) rfl (aF _) (by unfold maxLen;omega) (fun i x hi=>⟨_,rfl,rfl,fun j u hu=> ?_⟩);cases j with
  | zero=>
    have hu:some (Value.int .i64 x)=some u:=hu;rw[Nat.mul_one,Nat.add_zero,List.getElem?_map,hi];exact hu
  | succ j=>simp[encN]at hu
 refine(V8w l _ hs hl (by omega)).mono ?_;rintro e w' ⟨rfl,hx⟩;refine⟨?_,(Ext.alloc _ _).trans hx⟩;unfold OfR;rw[if_neg (by omega)]
theorem U0t(o:OpD)(w:World):Calls Tryz.prog 148 #[o.val] w fun e w'=>e= .returned (.int .i64 (endI o))/\Ext w w':=by
 obtain⟨h0,h1,h2,h3,h4,h5,h6,h7,h8,h9,h10⟩:=At11.row (Row1.made w 73 o.cells);have HE:Hid (endI o=if o.done=true then o.ret else 1099511627777):=rfl;go_enter Tryz.func148,Tryz.ntmps148;cases hd:o.done with
 | true=>
   rw[hd]at h7;go_wp2_with fail;go_ret;exact⟨Y3o (by rw[HE.out,if_pos hd]),by exact Xt⟩
 | false=>
   rw[hd]at h7;go_wp2_with fail;go_ret;exact⟨Y3o (by rw[HE.out,if_neg (by rw[hd];simp)]),by exact Xt⟩
theorem Z5p(i:Nat)(o:OpD)(w:World)(hi:i<5)(hl:∀x∈wayL i o,In64 x):
  Calls Tryz.prog 89 #[.int .i64 i,o.val] w fun e w'=>e= .returned (.string (wayK i o))/\Ext w w':=by
 have HBX:Hid (∀W:World,Ext (w.alloc (.cells #[.int .i64 o.id,.int .i64 o.proc,.int .i64 o.object,.int .i64 o.kind,.int .i64 o.method,.int .i64 o.arg,.int .i64 o.second,.bool o.done,.int .i64 o.result,.int .i64 o.invoke,.int .i64 o.ret] 73)) W->At11 W w.heap.size o):=fun W h=>(At11.row (Row1.made w 73 o.cells)).ext h (by simp);obtain⟨h0,h1,h2,h3,h4,h5,h6,h7,h8,h9,h10⟩:=HBX.out _ (Ext.refl _);rcases(show i=0\/i=1\/i=2\/i=3\/i=4 from by omega)with rfl | rfl | rfl | rfl | rfl
 ·have cO:Hid (∀(W:World) (n:Nat),W.heap.size=n->Calls Tryz.prog 44 #[.slice (some ⟨n,0,none⟩) 1 1] (W.alloc (.cells #[.int .i64 o.id] 3)) fun e w'=>e= .returned (.tuple #[.string (wayK 0 o),.int .i64 0])/\Ext W w'):=fun W n hn=>by subst hn;exact Z5y [o.id] W (by simp) hl
  generalize hk:wayK 0 o=k at cO;clear hl;go_enter Tryz.func89,Tryz.ntmps89;go_wp2_with (go_at_call 44;(with_reducible refine(cO.out _ _ ?_).mono ?_);(· simp);clear cO;rintro e w1 ⟨rfl,hb1⟩;have HB1:=hD hb1;clear hb1);go_ret;subst hk;exact⟨rfl,(Ext.alloc _ _).trans HB1.out⟩
 ·have cO:Hid (∀(W:World) (n:Nat),W.heap.size=n->Calls Tryz.prog 44 #[.slice (some ⟨n,0,none⟩) 3 3] (W.alloc (.cells #[.int .i64 o.object,.int .i64 o.invoke,.int .i64 o.id] 3)) fun e w'=>e= .returned (.tuple #[.string (wayK 1 o),.int .i64 0])/\Ext W w'):=fun W n hn=>by subst hn;exact Z5y [o.object,o.invoke,o.id] W (by simp) hl
  generalize hk:wayK 1 o=k at cO;clear hl;go_enter Tryz.func89,Tryz.ntmps89;go_wp2_with (go_at_call 44;(with_reducible refine(cO.out _ _ ?_).mono ?_);(· simp);clear cO;rintro e w1 ⟨rfl,hb1⟩;have HB1:=hD hb1;clear hb1);go_ret;subst hk;exact⟨rfl,(Ext.alloc _ _).trans HB1.out⟩
 ·have cO:Hid (∀(W:World) (n:Nat),W.heap.size=n->Calls Tryz.prog 44 #[.slice (some ⟨n,0,none⟩) 3 3] (W.alloc (.cells #[.int .i64 o.object,.int .i64 (endI o),.int .i64 o.id] 3)) fun e w'=>e= .returned (.tuple #[.string (wayK 2 o),.int .i64 0])/\Ext W w'):=fun W n hn=>by subst hn;exact Z5y [o.object,endI o,o.id] W (by simp) hl
  have cE:Hid (∀W,Calls Tryz.prog 148 #[.agg #[.int .i64 o.id,.int .i64 o.proc,.int .i64 o.object,.int .i64 o.kind,.int .i64 o.method,.int .i64 o.arg,.int .i64 o.second,.bool o.done,.int .i64 o.result,.int .i64 o.invoke,.int .i64 o.ret]] W fun e w'=>e= .returned (.int .i64 (endI o))/\Ext W w'):=fun W=>U0t o W;generalize hk:wayK 2 o=k at cO;generalize endI o=en at *;clear hl;go_enter Tryz.func89,Tryz.ntmps89;go_upto_region 8 with fail;generalize hW0:w.alloc _=W0 at *;have HX0:Hid (Ext w W0):=by unfold Hid;rw[<-hW0];exact Ext.alloc _ _
  clear h0 h1 h2 h3 h4 h5 h6 h7 h8 h9 h10 hW0;refine wp_region_held_drew (S:=fun W=>(W.cell? ⟨w.heap.size,0,none⟩=some (.int .i64 o.id)/\W.cell? ⟨w.heap.size,1,none⟩=some (.int .i64 o.proc)/\W.cell? ⟨w.heap.size,2,none⟩=some (.int .i64 o.object)/\W.cell? ⟨w.heap.size,3,none⟩=some (.int .i64 o.kind)/\W.cell? ⟨w.heap.size,4,none⟩=some (.int .i64 o.method)/\W.cell? ⟨w.heap.size,5,none⟩=some (.int .i64 o.arg)/\W.cell? ⟨w.heap.size,6,none⟩=some (.int .i64 o.second)/\W.cell? ⟨w.heap.size,7,none⟩=some (.bool o.done)/\W.cell? ⟨w.heap.size,8,none⟩=some (.int .i64 o.result)/\W.cell? ⟨w.heap.size,9,none⟩=some (.int .i64 o.invoke)/\W.cell? ⟨w.heap.size,10,none⟩=some (.int .i64 o.ret))) (by kernel_rfl) (HBX.out _ (by exact Xt)) (fun hHeld=> ?_);refine' tk 0 ?_;refine' tk 1 ?_;refine' tk 2 ?_;refine' tk 4 ?_;refine' tk 5 ?_;refine stp 3 (fun K hK=> ?_);go_simp
  (with_reducible refine(cE.out _).mono ?_)
  rintro e w1 ⟨rfl,hb1⟩;have HB1:Hid (Ext W0 w1):=Ext.trans (by exact Xt) hb1;have hz1:=HB1.out.size;clear hb1
  (try dsimp only)
  (try go_simp)
  refine hK.out _ _ (HBX.out _ (by exact Xx (HB1.out))) (fun hHeld=> ?_);clear hK K;refine pt ?_;refine stp 6 (fun K hK=> ?_);go_simp;refine hK.out _ _ (HBX.out _ (by exact Xx (HB1.out))) (fun hHeld=> ?_);clear hK K;refine pt ?_;refine stp 7 (fun K hK=> ?_);go_simp
  (with_reducible refine(cO.out _ _ ?_).mono ?_)
  ·simp
  rintro e w2 ⟨rfl,hb2⟩;have HB2:Hid (Ext W0 w2):=Ext.trans (by exact Xx (HB1.out)) hb2;have hz2:=HB2.out.size;clear hb2
  (try dsimp only)
  (try go_simp)
  refine hK.out _ _ (HBX.out _ (by exact Xx (HB2.out))) (fun hHeld=> ?_);clear hK K;refine pt ?_;refine' tk 8 ?_;refine' tk 9 ?_;refine' tk 10 ?_;refine' tk 11 ?_;refine wpAnyH_done (by kernel_rfl) ?_ _;go_wp2_with fail;go_ret;subst hk;exact⟨rfl,HX0.out.trans HB2.out⟩
 ·have cO:Hid (∀(W:World) (n:Nat),W.heap.size=n->Calls Tryz.prog 44 #[.slice (some ⟨n,0,none⟩) 3 3] (W.alloc (.cells #[.int .i64 o.proc,.int .i64 o.invoke,.int .i64 o.id] 3)) fun e w'=>e= .returned (.tuple #[.string (wayK 3 o),.int .i64 0])/\Ext W w'):=fun W n hn=>by subst hn;exact Z5y [o.proc,o.invoke,o.id] W (by simp) hl
  generalize hk:wayK 3 o=k at cO;clear hl;go_enter Tryz.func89,Tryz.ntmps89;go_wp2_with (go_at_call 44;(with_reducible refine(cO.out _ _ ?_).mono ?_);(· simp);clear cO;rintro e w1 ⟨rfl,hb1⟩;have HB1:=hD hb1;clear hb1);go_ret;subst hk;exact⟨rfl,(Ext.alloc _ _).trans HB1.out⟩
 ·have cO:Hid (∀(W:World) (n:Nat),W.heap.size=n->Calls Tryz.prog 44 #[.slice (some ⟨n,0,none⟩) 2 2] (W.alloc (.cells #[.int .i64 o.method,.int .i64 o.id] 3)) fun e w'=>e= .returned (.tuple #[.string (wayK 4 o),.int .i64 0])/\Ext W w'):=fun W n hn=>by subst hn;exact Z5y [o.method,o.id] W (by simp) hl
  generalize hk:wayK 4 o=k at cO;clear hl;go_enter Tryz.func89,Tryz.ntmps89;go_wp2_with (go_at_call 44;(with_reducible refine(cO.out _ _ ?_).mono ?_);(· simp);clear cO;rintro e w1 ⟨rfl,hb1⟩;have HB1:=hD hb1;clear hb1);go_ret;subst hk;exact⟨rfl,(Ext.alloc _ _).trans HB1.out⟩
theorem X2w:∀(l:List UInt8) (u:Nat),l.foldl (fun u c=>u*256+c.toNat) u=u*256 ^ l.length+beN l
 | [],u=>by simp[beN]
 | c::r,u=>by
   rw[List.foldl_cons,X2w r,List.length_cons,Nat.pow_succ];have h1:beN (c::r)=c.toNat*256 ^ r.length+beN r:=by unfold beN;rw[List.foldl_cons,X2w r];simp[beN]
   rw[h1,Nat.add_mul,Nat.mul_assoc,Nat.mul_comm 256];omega
theorem X5s(c:UInt8)(r:List UInt8):beN (c::r)=c.toNat*256 ^ r.length+beN r:=by have h:beN (c::r)=r.foldl (fun u c=>u*256+c.toNat) (0*256+c.toNat):=rfl;rw[h,X2w];simp
theorem V8y:∀(l r:List UInt8),l.length=r.length->(l<r↔beN l<beN r)
 | [],[],_=>by simp[beN]
 | [],_::_,h=>by cases h
 | _::_,[],h=>by cases h
 | a::l,b::r,h=>by
   have hl:l.length=r.length:=by simpa using h
   have ih:=V8y l r hl;have h1:=V4g l;have h2:=V4g r;rw[List.cons_lt_cons_iff,X5s,X5s,ih,UInt8.lt_iff_toNat_lt,hl];rw[hl]at h1;constructor
   ·rintro(q | ⟨rfl,q⟩)
    ·have h3:(a.toNat+1)*256 ^ r.length<=b.toNat*256 ^ r.length:=Nat.mul_le_mul_right _ q;rw[Nat.add_mul]at h3;omega
    ·omega
   ·intro q;rcases Nat.lt_trichotomy a.toNat b.toNat with e | e | e
    ·exact .inl e
    ·refine .inr ⟨UInt8.toNat_inj.1 e,?_⟩;rw[e]at q;omega
    ·have h3:(b.toNat+1)*256 ^ r.length<=a.toNat*256 ^ r.length:=Nat.mul_le_mul_right _ e;rw[Nat.add_mul]at h3;omega
theorem V9e:∀(l r x y:List UInt8),l.length=r.length->(l++x<r++y↔l<r\/(l=r/\x<y))
 | [],[],x,y,_=>by simp
 | [],_::_,_,_,h=>by cases h
 | _::_,[],_,_,h=>by cases h
 | a::l,b::r,x,y,h=>by
   rw[List.cons_append,List.cons_append,List.cons_lt_cons_iff,List.cons_lt_cons_iff,V9e l r x y (by simpa using h)];constructor
   ·rintro(q | ⟨rfl,q | ⟨rfl,q⟩⟩)
    ·exact .inl (.inl q)
    ·exact .inl (.inr ⟨rfl,q⟩)
    ·exact .inr ⟨rfl,q⟩
   ·rintro((q | ⟨rfl,q⟩) | ⟨e,q⟩)
    ·exact .inl q
    ·exact .inr ⟨rfl,.inl q⟩
    ·injection e with e1 e2;exact .inr ⟨e1,.inr ⟨e2,q⟩⟩
theorem Y8r{n:Int}(h:Z9g n):(beN (ordL n):Int)=n+9223372036854775808:=by have:=Y9b n h.1 h.2;unfold Y5w at this;omega
theorem X4l{a b:Int}(ha:Z9g a)(hb:Z9g b)(h:ordL a=ordL b):a=b:=by have h1:=Y8r ha;have h2:=Y8r hb;rw[h]at h1;omega
theorem U0b{a b:Int}(ha:Z9g a)(hb:Z9g b):ordL a<ordL b↔a<b:=by rw[V8y _ _ (by rw[Z1v,Z1v])];have h1:=Y8r ha;have h2:=Y8r hb;omega
theorem Z7j(x:Int)(l:List Int):keyL (x::l)=ordL x++keyL l:=by unfold keyL;rw[aI]
theorem U0a(x:Int):ordL x≠ []:=fun e=>by have:=Z1v x;rw[e]at this;cases this
theorem V2b:∀(a b:List Int),(∀x∈a,Z9g x)->(∀x∈b,Z9g x)->(keyL a<keyL b↔a<b)
 | [],[],_,_=>by simp[keyL]
 | [],y::b,_,_=>by
   rw[Z7j];have h:keyL []= []:=rfl;rw[h];cases e:ordL y with
   | nil=>exact absurd e (U0a y)
   | cons c r=>simp
 | x::a,[],_,_=>by
   have h:keyL []= []:=rfl;rw[h];exact⟨fun q=>absurd q (List.not_lt_nil _),fun q=>absurd q (List.not_lt_nil _)⟩
 | x::a,y::b,ha,hb=>by
   have hx:=ha x (by simp);have hy:=hb y (by simp);rw[Z7j,Z7j,V9e _ _ _ _ (by rw[Z1v,Z1v]),List.cons_lt_cons_iff,U0b hx hy,V2b a b (fun z hz=>ha z (by simp[hz])) (fun z hz=>hb z (by simp[hz]))];constructor
   ·rintro(q | ⟨q1,q2⟩)
    ·exact .inl q
    ·exact .inr ⟨X4l hx hy q1,q2⟩
   ·rintro(q | ⟨rfl,q2⟩)
    ·exact .inl q
    ·exact .inr ⟨rfl,q2⟩
def keyB(l:List Int):ByteArray:=bts (keyL l)
theorem U0o{a b:List Int}(ha:∀x∈a,Z9g x)(hb:∀x∈b,Z9g x):ltB (keyB a) (keyB b)=true↔a<b:=by unfold keyB;rw[Z6h,Z1p,Z1p,V2b a b ha hb]
theorem X4s:∀(a b:List Int),(∀x∈a,Z9g x)->(∀x∈b,Z9g x)->keyL a=keyL b->a=b
 | [],[],_,_,_=>rfl
 | [],y::b,_,_,h=>by
   have:=congrArg List.length h;rw[Z3y,Z3y]at this;simp at this
 | x::a,[],_,_,h=>by
   have:=congrArg List.length h;rw[Z3y,Z3y]at this;simp at this
 | x::a,y::b,ha,hb,h=>by rw[Z7j,Z7j]at h;obtain⟨h1,h2⟩:=List.append_inj h (by rw[Z1v,Z1v]);rw[X4l (ha x (by simp)) (hb y (by simp)) h1,X4s a b (fun z hz=>ha z (by simp[hz])) (fun z hz=>hb z (by simp[hz])) h2]
theorem V6v{a b:List Int}(ha:∀x∈a,Z9g x)(hb:∀x∈b,Z9g x)(h:keyB a=keyB b):a=b:=by
 have h1:(keyB a).data.toList=(keyB b).data.toList:=by rw[h]
 unfold keyB at h1;rw[Z1p,Z1p]at h1;exact X4s a b ha hb h1
def recW(i:Nat)(o:OpD):ByteArray:=if i=0 then bts (opL o)else⟨#[]⟩
theorem OpIn.way{o:OpD}(h:OpIn o)(i:Nat):∀x∈wayL i o,In64 x:=by
 have h1:=h.nums;have h2:=h.id;have h3:endI o<=1099511627777/\0<=endI o:=by
  unfold endI;split
  ·rename_i hd;have:=h.yes hd;have:=h.invoke;omega
  ·omega
 have hm:∀x∈opV o,In64 x:=fun x hx=>by have:=h1 x hx;unfold In64;omega
 unfold wayL;intro x hx;split at hx<;>simp only[List.mem_cons,List.not_mem_nil,or_false]at hx
 ·subst hx;exact hm _ (by simp[opV])
 ·rcases hx with rfl | rfl | rfl<;>exact hm _ (by simp[opV])
 ·rcases hx with rfl | rfl | rfl
  ·exact hm _ (by simp[opV])
  ·unfold In64;omega
  ·exact hm _ (by simp[opV])
 ·rcases hx with rfl | rfl | rfl<;>exact hm _ (by simp[opV])
 ·rcases hx with rfl | rfl<;>exact hm _ (by simp[opV])
theorem Y3c(i:Nat)(o:OpD):(wayL i o).getLast? =some o.id:=by unfold wayL;split<;>rfl
theorem Z9i{i:Nat}{a b:OpD}(ha:∀x∈wayL i a,In64 x)(hb:∀x∈wayL i b,In64 x)(h:wayK i a=wayK i b):a.id=b.id:=by have:=V6v ha hb h;have h1:=Y3c i a;rw[this,Y3c i b]at h1;injection h1 with h1;exact h1.symm
theorem Z9t(i:Nat){o:OpD}(h:OpIn o):(recW i o).size<=80:=by
 unfold recW;split
 ·rw[Z0h];have:=V1f h;omega
 ·simp[ByteArray.size]
theorem V2l{l:List KV}(h:Z6u l)(k v:ByteArray)(x:KV):x∈Z6t l k v↔x=(k,v)\/(x∈l/\x.1≠k):=by
 unfold Z6t;rw[List.mem_append,List.mem_cons,List.mem_filter,List.mem_filter];constructor
 ·rintro(⟨h1,h2⟩ | h1 | ⟨h1,h2⟩)
  ·exact .inr ⟨h1,Z2m h2⟩
  ·exact .inl h1
  ·exact .inr ⟨h1,fun e=>Z2m h2 e.symm⟩
 ·rintro(h1 | ⟨h1,h2⟩)
  ·exact .inr (.inl h1)
  ·cases hlt:ltB x.1 k with
   | true=>exact .inl ⟨h1,rfl⟩
   | false=>
     cases hgt:ltB k x.1 with
     | true=>exact .inr (.inr ⟨h1,rfl⟩)
     | false=>exact absurd (Y8c hlt hgt) h2
def updF{α:Type}(f:Nat->α)(i:Nat)(v:α):Nat->α:=fun j=>if j=i then v else f j
theorem Z0t{α:Type}(f:Nat->α)(i:Nat)(v:α):updF f i v i=v:=by unfold updF;rw[if_pos rfl]
theorem Z0o{α:Type}(f:Nat->α){i j:Nat}(v:α)(h:j≠i):updF f i v j=f j:=by unfold updF;rw[if_neg h]
def depT:TrD->Nat
 | .no=>0
 | .yes d _=>d+1
theorem Y2s(T:TrD):T.need=depT T+1:=by cases T<;>rfl
theorem Z4m{T:TrD}(h:depT T<=31):T.fine:=by cases T with
 | no=>trivial
 | yes d t=>have:d+1<=31:=h;show d<31;omega
theorem V0m{S S':StoreD}{i:Nat}{k v:ByteArray}{T T':TrD}(h:Y1x S i k v S' T' T):depT T'<=depT T+1:=by
 cases T with
 | no=>obtain⟨a,_,_,rfl⟩:=h;exact aF _
 | yes d t=>
   obtain⟨S1,t',o,_,hm⟩:=h;cases o with
   | none=>obtain⟨_,rfl⟩:=hm;exact Nat.le_succ _
   | some x=>obtain⟨top,_,_,rfl⟩:=hm;exact aF _
structure Tab (S:StoreD) (Ts:Nat->TrD) (L:Nat->List OpD):Prop where
 fm:Fm S
 tr:∀i,i<5->TrS S i (Ts i)
 disj:∀i j,i<5->j<5->i≠j->∀b∈(Ts i).pages,b∉(Ts j).pages
 ok:∀i,i<5->∀o∈L i,Z1s o=0
 ids:∀i,i<5->(L i).Pairwise (fun a b=>a.id≠b.id)
 mem:∀i,i<5->∀x:KV,x∈(Ts i).list↔∃o∈L i,x=(wayK i o,recW i o)
theorem Tab.put{S S':StoreD}{Ts:Nat->TrD}{L:Nat->List OpD}{i:Nat}{o:OpD}{T':TrD}{F:List Nat}(h:Tab S Ts L)(hi:i<5)(ho:Z1s o=0)(hn:∀x∈L i,x.id≠o.id)(hp:PutTL S i (Ts i) (wayK i o) (recW i o) S' T' F):Tab S' (updF Ts i T') (updF L i (o::L i)):=by
 have hfr:∀j,j<5->∀b∈(Ts j).pages,b∉F:=fun j hj b hb q=>by have h1:=((h.tr j hj).given b hb).2.2;rw[(hp.fresh b q).1]at h1;cases h1
 refine⟨h.fm.big hp.big (fun b q=>by cases q),fun j hj=> ?_,fun j k hj hk hne b hb=> ?_,fun j hj x hx=> ?_,fun j hj=> ?_,fun j hj x=> ?_⟩
 ·by_cases e:j=i
  ·subst e;rw[Z0t];exact hp.tr
  ·rw[Z0o _ _ e];exact TrS.other hp.big (by omega) e (h.tr j hj) (fun b hb=>⟨fun q=>h.disj j i hj hi e b hb q,hfr j hj b hb,by simp⟩)
 ·by_cases e:j=i
  ·subst e;rw[Z0t]at hb;rw[Z0o _ _ (Ne.symm hne)];rcases List.mem_append.1 (hp.pages.mem_iff.1 hb)with q | q
   ·exact h.disj j k hj hk hne b q
   ·exact fun r=>hfr k hk b r q
  ·rw[Z0o _ _ e]at hb;by_cases e2:k=i
   ·subst e2;rw[Z0t];intro q;rcases List.mem_append.1 (hp.pages.mem_iff.1 q)with q | q
    ·exact h.disj j k hj hk hne b hb q
    ·exact hfr j hj b hb q
   ·rw[Z0o _ _ e2];exact h.disj j k hj hk hne b hb
 ·by_cases e:j=i
  ·subst e;rw[Z0t]at hx;rcases List.mem_cons.1 hx with rfl | hx
   ·exact ho
   ·exact h.ok j hj x hx
  ·rw[Z0o _ _ e]at hx;exact h.ok j hj x hx
 ·by_cases e:j=i
  ·subst e;rw[Z0t];exact List.pairwise_cons.2 ⟨fun x hx=>(hn x hx).symm,h.ids j hj⟩
  ·rw[Z0o _ _ e];exact h.ids j hj
 ·by_cases e:j=i
  ·subst e;rw[Z0t,Z0t,hp.list,V2l (h.tr j hj).rise];constructor
   ·rintro(rfl | ⟨h1,h2⟩)
    ·exact⟨o,List.mem_cons_self,rfl⟩
    ·obtain⟨y,hy,rfl⟩:=(h.mem j hj x).1 h1;exact⟨y,List.mem_cons_of_mem _ hy,rfl⟩
   ·rintro⟨y,hy,rfl⟩;rcases List.mem_cons.1 hy with rfl | hy
    ·exact .inl rfl
    ·refine .inr ⟨(h.mem j hj _).2 ⟨y,hy,rfl⟩,fun q=>hn y hy ?_⟩;exact Z9i (OpIn.way (OpIn.of (h.ok j hj y hy)) j) (OpIn.way (OpIn.of ho) j) q
  ·rw[Z0o _ _ e,Z0o _ _ e];exact h.mem j hj x
theorem Tab.congr{S:StoreD}{Ts Ts':Nat->TrD}{L L':Nat->List OpD}(h:Tab S Ts L)(h1:∀i,i<5->Ts' i=Ts i)(h2:∀i,i<5->L' i=L i):Tab S Ts' L':=
 ⟨h.fm,fun i hi=>by rw[h1 i hi];exact h.tr i hi,fun i j hi hj hn=>by rw[h1 i hi,h1 j hj];exact h.disj i j hi hj hn,fun i hi=>by rw[h2 i hi];exact h.ok i hi,fun i hi=>by rw[h2 i hi];exact h.ids i hi,fun i hi=>by rw[h1 i hi,h2 i hi];exact h.mem i hi⟩
def Z4x(Ts:Nat->TrD):Nat->Nat
 | 0=>0
 | k+1=>Z4x Ts k+(Ts k).need
theorem Tab.putR{S S':StoreD}{Ts:Nat->TrD}{L:Nat->List OpD}{i:Nat}{o:OpD}{T':TrD}(h:Tab S Ts L)(hi:i<5)(ho:Z1s o=0)(hn:∀x∈L i,x.id≠o.id)(hp:Y1x S i (wayK i o) (recW i o) S' T' (Ts i)):
  Tab S' (updF Ts i T') (updF L i (o::L i))/\Z0x S<=Z0x S'+(Ts i).need:=by
 obtain⟨F,hl⟩:=Y3r (by omega) hp h.fm (h.tr i hi) (Z6w i o) (Z9t i (OpIn.of ho));refine⟨h.put hi ho hn hl,?_⟩;have:=Y9l hl.big.used hl.big.head hl.nd (fun b hb=>⟨(hl.fresh b hb).1,(hl.fresh b hb).2.2⟩);have:=hl.len;omega
def opId(id:Int):OpD:=⟨id,0,0,0,0,0,0,false,0,0,0⟩
theorem Tab.get{S:StoreD}{Ts:Nat->TrD}{L:Nat->List OpD}(h:Tab S Ts L){id:Int}(hid:In64 id):Y1p (Ts 0).list (wayK 0 (opId id))=(getL (L 0) id).map (fun o=>bts (opL o)):=by
 have hin:∀x∈wayL 0 (opId id),In64 x:=fun x hx=>by
  have:x=id:=by simpa [wayL,opId]using hx
  rw[this];exact hid
 cases hg:getL (L 0) id with
 | none=>
   refine Y6m (fun x hx e=> ?_);obtain⟨y,hy,rfl⟩:=(h.mem 0 (by omega) x).1 hx;have h1:y.id=id:=Z9i (OpIn.way (OpIn.of (h.ok 0 (by omega) y hy)) 0) hin e;unfold getL at hg;rw[List.find?_eq_none]at hg;have:=hg y hy;simp[h1]at this
 | some o=>
   unfold getL at hg;have h1:o.id=id:=by have:=List.find?_some hg;simpa using this
   have h2:=List.mem_of_find?_eq_some hg;refine Y1o (h.tr 0 (by omega)).rise ((h.mem 0 (by omega) _).2 ⟨o,h2,?_⟩);have e1:wayK 0 (opId id)=wayK 0 o:=by unfold wayK wayL;rw[h1];rfl
   rw[e1];rfl
structure Begun (w:World) (p:Nat) (F:Nat->Prop) (n room:Nat) (w':World):Prop where
 pag:PagerAt w' p F (Z1j n room)
 ext:Ext w w'
 new:∀i,F i->w.heap.size<=i
theorem Keeps.fresh{F F':Nat->Prop}{w w1 w2:World}(h:Keeps F F' w1 w2)(hx:Ext w w1)(hF:∀i,F i->w.heap.size<=i):Ext w w2/\∀i,F' i->w.heap.size<=i:=by
 refine⟨((Only.of (F:=fun _=>False) hx).trans h.only (fun i q=> .inr (hF i q))).toExt (fun _ q=>q.elim),fun i q=> ?_⟩;rcases h.new i q with r | r
 ·exact hF i r
 ·have:=hx.size;omega
theorem Y5e(w:World):
  Calls Tryz.prog 23 #[] w fun e w'=>∃d p tb ts F,e= .returned (.tuple #[.pointer (some ⟨d,0,none⟩),.pointer (some ⟨p,0,none⟩),.pointer (some ⟨tb,0,none⟩)])/\TblAt w' tb p ts F/\Begun w p F 1800 860 w'/\w.heap.size<=tb:=by
 have cN:Calls Tryz.prog 55 #[.int .i64 1800] w _:=X2s 1800 w (by omega) (by omega);have cF:Hid (∀W (g:Nat) (F1:Nat->Prop),DiskAt W g F1 (newD 1800)->Calls Tryz.prog 56 #[.pointer (some ⟨g,0,none⟩),.int .i64 860] W fun e w'=>e= .returned (.int .i64 0)/\∃F',DiskAt w' g F' (fmtD 1800 860 (pgN 1800 860))/\Keeps F1 F' W w'):=fun W g F1 hW=>X7v 1800 860 (pgN 1800 860) W hW (by omega) (by omega) (by omega) rfl;have cO:Hid (∀W (g:Nat) (F2:Nat->Prop),DiskAt W g F2 (fmtD 1800 860 (pgN 1800 860))->Calls Tryz.prog 57 #[.pointer (some ⟨g,0,none⟩)] W fun e w'=>∃s F',e= .returned (.tuple #[.pointer (some ⟨s,0,none⟩),.int .i64 0])/\StoreAt w' s F' (Y6n 1800 860)/\Keeps F2 F' W w'/\W.heap.size<=s):=fun W g F2 hW=>X6m (Z5b 1800 860) W hW rfl (by rw[V3b];omega) (X7t (by omega) (by omega) (by omega)) (X0o (by omega) (by omega) (by omega)) rfl;have cP:Hid (∀W (s:Nat) (F2:Nat->Prop),StoreAt W s F2 (Y6n 1800 860)->Calls Tryz.prog 58 #[.pointer (some ⟨s,0,none⟩)] W fun e w'=>∃p F',e= .returned (.tuple #[.pointer (some ⟨p,0,none⟩),.int .i64 0])/\PagerAt w' p F' (Y6n 1800 860)/\Keeps F2 F' W w'/\W.heap.size<=p):=fun W s F2 hW=>Y9x W hW (X6t 1800 860) (by decide);have cG:Hid (∀W (p:Nat) (F2:Nat->Prop),PagerAt W p F2 (Y6n 1800 860)->Calls Tryz.prog 59 #[.pointer (some ⟨p,0,none⟩)] W fun e w'=>e= .returned (.int .i64 0)/\∃F',PagerAt w' p F' (Z1j 1800 860)/\Keeps F2 F' W w'):=fun W p F2 hW=>X1u W hW;go_enter Tryz.func23,Tryz.ntmps23;go_wp2_with (first | (go_at_call 55;(with_reducible refine cN.mono ?_);clear cN;rintro e w1 ⟨g,F1,rfl,hd1,hx1,hn1⟩;have HX1:=hD hx1;have HN1:=hD hn1;have HD1:=hD hd1;clear hx1 hn1 hd1) | (go_at_call 56;(with_reducible refine(cF.out _ _ _ HD1.out).mono ?_);clear cF;rintro e w2 ⟨rfl,F2,hd2,hk2⟩;have HK2:=hD hk2;have HD2:=hD hd2;clear hk2 hd2) | (go_at_call 57;(with_reducible refine(cO.out _ _ _ HD2.out).mono ?_);clear cO;rintro e w3 ⟨s,F3,rfl,hs3,hk3,hz3⟩;have HK3:=hD hk3;have HS3:=hD hs3;clear hk3 hs3 hz3) | (go_at_call 58;(with_reducible refine(cP.out _ _ _ HS3.out).mono ?_);clear cP;rintro e w4 ⟨p,F4,rfl,hp4,hk4,hz4⟩;have HK4:=hD hk4;have HP4:=hD hp4;clear hk4 hp4 hz4) | (go_at_call 59;(with_reducible refine(cG.out _ _ _ HP4.out).mono ?_);clear cG;rintro e w5 ⟨rfl,F5,hp5,hk5⟩;have HK5:=hD hk5;have HP5:=hD hp5;clear hk5 hp5;have cT:=X1m w5 HP5.out) | (go_at_call 65;(with_reducible refine cT.mono ?_);clear cT;rintro e w6 ⟨tb,ts,F6,rfl,ht6,hp6,hk6,hz6⟩))
 go_ret3
 have h1:=((((HK2.out.trans HK3.out).trans HK4.out).trans HK5.out).trans hk6).fresh HX1.out HN1.out;have h2:=Nat.le_trans (Nat.le_trans (Nat.le_trans (Nat.le_trans HX1.out.size HK2.out.only.size) HK3.out.only.size) (Nat.le_trans HK4.out.only.size HK5.out.only.size)) hz6;exact⟨g,p,tb,ts,F6,rfl,ht6,⟨hp6,h1.1,h1.2⟩,h2⟩
end Go.Proofs.YtohaldfnmgcofaaGreat
