/- A tree's node as data and as bytes; a text taken off a page. Conditions: texts of at most 255 bytes. -/
import Derived.Test.YtohaldfnmgcofaaGreatT15
import Derived.Test.YtohaldfnmgcofaaGreatT16
set_option maxRecDepth 100000
set_option maxHeartbeats 4000000
set_option linter.unusedSimpArgs false
set_option linter.unusedVariables false
namespace Go.Proofs.YtohaldfnmgcofaaGreat
open Go.RowKit
def lenL(s:ByteArray):List UInt8:=UInt8.ofNat s.size::s.data.toList
theorem Z8k(s:ByteArray):(lenL s).length=1+s.size:=by unfold lenL;rw[List.length_cons,Array.length_toList];show s.size+1=_;omega
structure NodeD where
 leaf:Bool
 keys:List ByteArray
 vals:List ByteArray
 kids:List Int
structure NodeOk (n:NodeD):Prop where
 keys:∀k∈n.keys,k.size<=255
 vals:∀v∈n.vals,v.size<=255
 kids:∀c∈n.kids,0<=c/\c<65536
 many:n.keys.length<=255
 leafs:n.leaf=true->n.vals.length=n.keys.length/\n.kids= []
 inner:n.leaf=false->n.vals= []/\n.kids.length=n.keys.length+1
def entL(n:NodeD)(i:Nat):List UInt8:=lenL (n.keys[i]?.getD ByteArray.empty)++(if n.leaf=true then lenL (n.vals[i]?.getD ByteArray.empty)else [])
def kidL(c:Int):List UInt8:= [UInt8.ofNat (c.toNat%256),UInt8.ofNat (c.toNat/256%256)]
def Z2n(n:NodeD)(i:Nat):List UInt8:=(List.range' i (n.keys.length-i)).flatMap (entL n)
def Z5x(n:NodeD)(i:Nat):List UInt8:=(n.kids.drop i).flatMap kidL
def Z2g(n:NodeD):List UInt8:=(if n.leaf=true then 1 else 2)::UInt8.ofNat n.keys.length::(Z2n n 0++Z5x n 0)
theorem Y1z(n:NodeD){i:Nat}(h:i<n.keys.length):Z2n n i=entL n i++Z2n n (i+1):=by unfold Z2n;rw[show n.keys.length-i=(n.keys.length-(i+1))+1 by omega,List.range'_succ,aI]
theorem V3z(n:NodeD):Z2n n n.keys.length= []:=by unfold Z2n;rw[Nat.sub_self];rfl
theorem X7u(n:NodeD){i:Nat}(h:i<n.kids.length):Z5x n i=kidL n.kids[i]++Z5x n (i+1):=by unfold Z5x;rw[List.drop_eq_getElem_cons h,aI]
def Z0o(l:List ByteArray):Nat:=(l.map fun k=>1+k.size).sum
def Z0n(n:NodeD):Nat:=2+2*n.kids.length+Z0o n.keys+Z0o n.vals
theorem Y5e(l r:List UInt8)(c:UInt8)(i:Nat)(hi:l.length=i)(h:i<(bts (l++c::r)).size):(bts (l++c::r))[i]=c:=by subst hi;simp[bts,ByteArray.getElem_eq_getElem_data]
theorem Z9i(a m r:List UInt8)(i j:Nat)(hi:a.length=i)(hj:i+m.length=j):(bts (a++m++r)).extract i j=bts m:=by subst hi hj;rw[ByteArray.ext_iff];simp[bts]
theorem Z2k(a m:List UInt8)(i j:Nat)(hi:a.length=i)(hj:i+m.length=j):(bts (a++m)).extract i j=bts m:=by have:=Z9i a m [] i j hi hj;rwa [List.append_nil]at this
theorem X3z(x:ByteArray)(r:List UInt8)(w:World)(hx:x.size<=255)(hr:r.length<=100000):
  cQ 188 #[.string (bts (lenL x++r))] w fun e w'=>e= .returned (.tuple #[.string x,.string (bts r),.bool true])/\Ext w w':=by
 obtain⟨s,hs⟩:∃s,bts (lenL x++r)=s:=⟨_,rfl⟩;have hsz:s.size=1+x.size+r.length:=by rw[<-hs,Z0e,aA,Z8k]
 have h0:0<s.size:=by omega
 have hb:s[0]=UInt8.ofNat x.size:=by subst hs;exact Y5e [] (x.data.toList++r) _ 0 rfl (by simpa [lenL]using h0)
 have hbn:(s[0].toNat:Int)=x.size:=by rw[hb,UInt8.toNat_ofNat_of_lt' (by show x.size<256;omega)]
 have e1:s.extract 1 (1+x.size)=x:=by have:=Z9i [UInt8.ofNat x.size] x.data.toList r 1 (1+x.size) rfl (by rw[Array.length_toList];rfl);rw[X5y]at this;rw[<-hs];exact this
 have e2:s.extract (1+x.size) s.size=bts r:=by rw[hsz,<-hs];exact Z2k (lenL x) r (1+x.size) _ (Z8k x) (by omega)
 rw[hs];have hne3:¬s.toList= []:=fun q=>by
  rw[ByteArray.toList_eq]at q;have h1:s.data.toList.length=0:=by rw[q];rfl
  rw[Array.length_toList]at h1;have h2:s.data.size=s.size:=rfl;omega
 have hne2:s.toList.isEmpty=false:=by
  cases hh:s.toList with
  | nil=>exact absurd hh hne3
  | cons=>rfl
 obtain⟨n,hn⟩:∃n,x.size=n:=⟨_,rfl⟩;rw[hn]at hbn e1 e2 hsz hx;have h1:(n:Int)<=255:=by omega
 have h2:(1:Int)+n<=s.size:=by omega
 have h3:((1:Int)+n).toNat=1+n:=by omega
 have q1:decide ((s.size:Int)<1+n)=false:=aM;have q3:(0:Int)<s.size:=by omega
 have HS:=hD hs;clear hs hb hn hsz;go_enter Tryz.func188,Tryz.ntmps188;go_wp2_with fail
 go_quiet (fail)
 go_wp2_with fail
 go_ret3
 exact⟨rfl,Ext.drewN (Ext.refl w) _⟩
structure NodeAs (w:World) (F:Nat->Prop) (n:NodeD) (kv vv cv:Value):Prop where
 keys:OwnL w 0 9 1 encS kv n.keys
 vals:OwnL w 0 9 1 encS vv n.vals
 kids:OwnL w 0 3 1 encN cv n.kids
 sep:∀b,kv.ownBlock=some b->vv.ownBlock≠some b
 fk:∀b,kv.ownBlock=some b->F b
 fv:∀b,vv.ownBlock=some b->F b
 fc:∀b,cv.ownBlock=some b->F b
def X2o(n:NodeD)(kv vv cv:Value):Value:= .agg #[.bool n.leaf,kv,vv,cv]
section
variable {w w':World} {F F' G:Nat->Prop} {n:NodeD} {kv vv cv:Value}
theorem NodeAs.only(h:NodeAs w F n kv vv cv)(hb:Only G w w')(hG:∀i,F i->¬G i):NodeAs w' F n kv vv cv:=
 ⟨h.keys.only hb (fun k q=>hG k (h.fk k q)),h.vals.only hb (fun k q=>hG k (h.fv k q)),h.kids.only hb (fun k q=>hG k (h.fc k q)),h.sep,h.fk,h.fv,h.fc⟩
theorem NodeAs.ext(h:NodeAs w F n kv vv cv)(hb:Ext w w'):NodeAs w' F n kv vv cv:=h.only (G:=fun _=>False) (Only.of hb) (fun _ _ q=>q)
theorem NodeAs.mono(h:NodeAs w F n kv vv cv)(hF:∀i,F i->F' i):NodeAs w F' n kv vv cv:=⟨h.keys,h.vals,h.kids,h.sep,fun b q=>hF b (h.fk b q),fun b q=>hF b (h.fv b q),fun b q=>hF b (h.fc b q)⟩
theorem NodeAs.shrink(h:NodeAs w F n kv vv cv):NodeAs w (fun i=>F i/\i<w.heap.size) n kv vv cv:=
 ⟨h.keys,h.vals,h.kids,h.sep,fun b q=>⟨h.fk b q,(h.keys.lt b q).2⟩,fun b q=>⟨h.fv b q,(h.vals.lt b q).2⟩,fun b q=>⟨h.fc b q,(h.kids.lt b q).2⟩⟩
end
structure PM (w wr:World) (leaf:Bool) (K V:List ByteArray) (C:List Int) (kv vv cv:Value):Prop where
 r2:Row1 wr w.heap.size 166 [.bool false,.slice none 0 0,.slice none 0 0,.slice none 0 0]
 r4:Row1 wr (w.heap.size+1) 166 [.bool leaf,kv,vv,cv]
 ok:OwnL wr (w.heap.size+2) 9 1 encS kv K
 ov:OwnL wr (w.heap.size+2) 9 1 encS vv V
 oc:OwnL wr (w.heap.size+2) 3 1 encN cv C
 sep:∀b,kv.ownBlock=some b->vv.ownBlock≠some b
 ext:Ext w wr
section
variable {w wr W w3:World} {leaf:Bool} {K V:List ByteArray} {C:List Int} {kv vv cv v':Value}
theorem PM.more(h:PM w wr leaf K V C kv vv cv)(hb:Ext wr W):PM w W leaf K V C kv vv cv:=
 ⟨h.r2.ext hb h.r2.lt,h.r4.ext hb h.r4.lt,h.ok.ext hb,h.ov.ext hb,h.oc.ext hb,h.sep,Ext.trans h.ext hb⟩
theorem PM.pushV(h:PM w W leaf K V C kv vv cv){y:ByteArray}(hown:OwnL w3 (w.heap.size+2) 9 1 encS v' (V++ [y]))(hgr:W.grownBy w3 vv.ownBlock)(hwh:∀k,v'.ownBlock=some k->vv.ownBlock=some k\/W.heap.size<=k):
  PM w (w3.setCell ⟨w.heap.size+1,2,none⟩ v') leaf K (V++ [y]) C kv v' cv:=by
 have h4:=h.ov.apartRow h.r4 (by decide);have h2:=h.ov.apartRow h.r2 (by decide);have hR4:=h.r4.grown hgr (fun e=>h4 e.symm);have hR2:=h.r2.grown hgr (fun e=>h2 e.symm);have hv4:=hown.apartRow hR4 (by decide);have ho3:Only (fun i=>vv.ownBlock=some i) W w3:=Only.grown hgr;have ho:Only (fun i=>i=w.heap.size+1) w3 (w3.setCell ⟨w.heap.size+1,2,none⟩ v'):=Only.setCell (F:=fun i=>i=w.heap.size+1) (p:=⟨w.heap.size+1,2,none⟩) Only.refl (.inl rfl) v';have hk3:=h.ok.only ho3 (fun k q q'=>h.sep k q q');have hc3:=h.oc.only ho3 (fun k q q'=>h.oc.apart h.ov (by decide) q q');have hk4:=hk3.apartRow hR4 (by decide);have hc4:=hc3.apartRow hR4 (by decide);refine⟨hR2.setFar (by simp) v',hR4.set 2 v',hk3.only ho (fun k q q'=>hk4 (by rw[q,q'])),hown.only ho (fun k q q'=>hv4 (by rw[q,q'])),hc3.only ho (fun k q q'=>hc4 (by rw[q,q'])),fun b hb hb'=> ?_,?_⟩
 ·rcases hwh b hb' with q | q
  ·exact h.sep b hb q
  ·have:=(h.ok.lt b hb).2;omega
 ·refine Only.toExt (F:=fun i=>w.heap.size<=i) ?_ (fun i q=>q);exact((Only.of h.ext).trans' (ho3.mono (fun i q=> .inl (by have:=(h.ov.lt i q).1;omega)))).trans' (ho.mono (fun i q=> .inl (by omega)))
theorem PM.pushK(h:PM w W leaf K V C kv vv cv){y:ByteArray}(hown:OwnL w3 (w.heap.size+2) 9 1 encS v' (K++ [y]))(hgr:W.grownBy w3 kv.ownBlock)(hwh:∀k,v'.ownBlock=some k->kv.ownBlock=some k\/W.heap.size<=k):
  PM w (w3.setCell ⟨w.heap.size+1,1,none⟩ v') leaf (K++ [y]) V C v' vv cv:=by
 have h4:=h.ok.apartRow h.r4 (by decide);have h2:=h.ok.apartRow h.r2 (by decide);have hR4:=h.r4.grown hgr (fun e=>h4 e.symm);have hR2:=h.r2.grown hgr (fun e=>h2 e.symm);have hv4:=hown.apartRow hR4 (by decide);have ho3:Only (fun i=>kv.ownBlock=some i) W w3:=Only.grown hgr;have ho:Only (fun i=>i=w.heap.size+1) w3 (w3.setCell ⟨w.heap.size+1,1,none⟩ v'):=Only.setCell (F:=fun i=>i=w.heap.size+1) (p:=⟨w.heap.size+1,1,none⟩) Only.refl (.inl rfl) v';have hk3:=h.ov.only ho3 (fun k q q'=>h.sep k q' q);have hc3:=h.oc.only ho3 (fun k q q'=>h.oc.apart h.ok (by decide) q q');have hk4:=hk3.apartRow hR4 (by decide);have hc4:=hc3.apartRow hR4 (by decide);refine⟨hR2.setFar (by simp) v',hR4.set 1 v',hown.only ho (fun k q q'=>hv4 (by rw[q,q'])),hk3.only ho (fun k q q'=>hk4 (by rw[q,q'])),hc3.only ho (fun k q q'=>hc4 (by rw[q,q'])),fun b hb hb'=> ?_,?_⟩
 ·rcases hwh b hb with q | q
  ·exact h.sep b q hb'
  ·have:=(h.ov.lt b hb').2;omega
 ·refine Only.toExt (F:=fun i=>w.heap.size<=i) ?_ (fun i q=>q);exact((Only.of h.ext).trans' (ho3.mono (fun i q=> .inl (by have:=(h.ok.lt i q).1;omega)))).trans' (ho.mono (fun i q=> .inl (by omega)))
theorem PM.pushC(h:PM w W leaf K V C kv vv cv){y:Int}(hown:OwnL w3 (w.heap.size+2) 3 1 encN v' (C++ [y]))(hgr:W.grownBy w3 cv.ownBlock):
  PM w (w3.setCell ⟨w.heap.size+1,3,none⟩ v') leaf K V (C++ [y]) kv vv v':=by
 have h4:=h.oc.apartRow h.r4 (by decide);have h2:=h.oc.apartRow h.r2 (by decide);have hR4:=h.r4.grown hgr (fun e=>h4 e.symm);have hR2:=h.r2.grown hgr (fun e=>h2 e.symm);have hv4:=hown.apartRow hR4 (by decide);have ho3:Only (fun i=>cv.ownBlock=some i) W w3:=Only.grown hgr;have ho:Only (fun i=>i=w.heap.size+1) w3 (w3.setCell ⟨w.heap.size+1,3,none⟩ v'):=Only.setCell (F:=fun i=>i=w.heap.size+1) (p:=⟨w.heap.size+1,3,none⟩) Only.refl (.inl rfl) v';have hk3:=h.ok.only ho3 (fun k q q'=>h.ok.apart h.oc (by decide) q q');have hc3:=h.ov.only ho3 (fun k q q'=>h.ov.apart h.oc (by decide) q q');have hk4:=hk3.apartRow hR4 (by decide);have hc4:=hc3.apartRow hR4 (by decide);refine⟨hR2.setFar (by simp) v',hR4.set 3 v',hk3.only ho (fun k q q'=>hk4 (by rw[q,q'])),hc3.only ho (fun k q q'=>hc4 (by rw[q,q'])),hown.only ho (fun k q q'=>hv4 (by rw[q,q'])),h.sep,?_⟩;refine Only.toExt (F:=fun i=>w.heap.size<=i) ?_ (fun i q=>q);exact((Only.of h.ext).trans' (ho3.mono (fun i q=> .inl (by have:=(h.oc.lt i q).1;omega)))).trans' (ho.mono (fun i q=> .inl (by omega)))
end
theorem PM.done{w wr wf:World}{leaf:Bool}{K V:List ByteArray}{C:List Int}{kv vv cv:Value}(h:PM w wr leaf K V C kv vv cv)(ho:Only (fun i=>i=w.heap.size) wr wf):
  NodeAs wf (fun i=>w.heap.size<=i) ⟨leaf,K,V,C⟩ kv vv cv/\Ext w wf:=by
 refine⟨⟨(h.ok.only ho (fun k q q'=>by have:=(h.ok.lt k q).1;omega)).lower (Nat.zero_le _),(h.ov.only ho (fun k q q'=>by have:=(h.ov.lt k q).1;omega)).lower (Nat.zero_le _),(h.oc.only ho (fun k q q'=>by have:=(h.oc.lt k q).1;omega)).lower (Nat.zero_le _),h.sep,fun b q=>by have:=(h.ok.lt b q).1;omega,fun b q=>by have:=(h.ov.lt b q).1;omega,fun b q=>by have:=(h.oc.lt b q).1;omega⟩,?_⟩;refine Only.toExt (F:=fun i=>w.heap.size<=i) ?_ (fun i q=>q);exact(Only.of h.ext).trans' (ho.mono (fun i q=> .inl (by omega)))
theorem X0l{w:World}(B:Nat)(a b c d:Value):Only (fun i=>i=B) w ((((w.setCell ⟨B,0,none⟩ a).setCell ⟨B,1,none⟩ b).setCell ⟨B,2,none⟩ c).setCell ⟨B,3,none⟩ d):=
 ((((Only.refl:Only (fun i=>i=B) w w).setCell (p:=⟨B,0,none⟩) (.inl rfl) a).setCell (p:=⟨B,1,none⟩) (.inl rfl) b).setCell (p:=⟨B,2,none⟩) (.inl rfl) c).setCell (p:=⟨B,3,none⟩) (.inl rfl) d
theorem Y8s(n:NodeD):∀k,(Z2n n k).length<=(Z2n n 0).length
 | 0=>aF _
 | k+1=>by
   have ih:=Y8s n k;by_cases h:k<n.keys.length
   ·rw[Y1z n h,aA]at ih;omega
   ·unfold Z2n;rw[show n.keys.length-(k+1)=0 by omega];simp
theorem Z8e(l:List ByteArray)(k:Nat)(h:k<l.length):l.take (k+1)=l.take k++ [l[k]]:=by rw[List.take_add_one,aB h];rfl
theorem X4i{fn:Func}(h:fn.results= #[.cell 2 166,.tmp 3])(tmps:Array Value)(w:World)(B:Nat)(n:NodeD)(kv vv cv v:Value)(hB:tmps.getD 2 undef= tp B)(hv:tmps.getD 3 undef=v)(hr:Row1 w B 166 [.bool n.leaf,kv,vv,cv]):
  (results fn tmps).run Tryz.prog w= .ok (.tuple #[X2o n kv vv cv,v]) w:=by
 rw[results_cell_tmp h,hB,hv];have c0:w.cell? ⟨B,0,none⟩=some (.bool n.leaf):=hr.cell 0;have c1:w.cell? ⟨B,1,none⟩=some kv:=hr.cell 1;have c2:w.cell? ⟨B,2,none⟩=some vv:=hr.cell 2;have c3:w.cell? ⟨B,3,none⟩=some cv:=hr.cell 3;unfold X2o
 go_simp
theorem X7i(n:NodeD)(tail:List UInt8)(w:World)(hn:NodeOk n)(hl:n.leaf=true)(hsz:(Z2g n).length+tail.length<=100000):
  cQ 142 #[.string (bts (Z2g n++tail))] w fun e w'=>∃kv vv cv,e= .returned (.tuple #[X2o n kv vv cv,.int .i64 0])/\NodeAs w' (fun i=>w.heap.size<=i) n kv vv cv/\Ext w w':=by
 obtain⟨hvl,hkids⟩:=hn.leafs hl;have hnl:Z2g n++tail=1::UInt8.ofNat n.keys.length::(Z2n n 0++tail):=by unfold Z2g;rw[if_pos hl,show Z5x n 0= []by unfold Z5x;rw[hkids];rfl,List.append_nil];rfl
 rw[hnl];have hsz:(Z2n n 0).length+tail.length+2<=100000:=by have h1:=congrArg List.length hnl;simp only[aA,List.length_cons]at h1;omega
 obtain⟨L,hL⟩:∃L,Z2n n 0++tail=L:=⟨_,rfl⟩;have hLl:L.length=(Z2n n 0).length+tail.length:=by rw[<-hL,aA]
 rw[hL];obtain⟨s,hs⟩:∃s,bts (1::UInt8.ofNat n.keys.length::L)=s:=⟨_,rfl⟩;have hss:s.size=2+L.length:=by rw[<-hs,Z0e];simp;omega
 have hs0:0<s.size:=by omega
 have hs1:1<s.size:=by omega
 have hb0:s[0]=1:=by subst hs;exact Y5e [] _ 1 0 rfl hs0
 have hb1:s[1]=UInt8.ofNat n.keys.length:=by subst hs;exact Y5e [1] _ _ 1 rfl hs1
 have hbn:(s[1].toNat:Int)=n.keys.length:=by rw[hb1,UInt8.toNat_ofNat_of_lt' (by have:=hn.many;show n.keys.length<256;omega)]
 have hbz:(s[0].toNat:Int)=1:=by rw[hb0];rfl
 have he2:s.extract 2 s.size=bts (Z2n n 0++tail):=by rw[hss,<-hs,hL];exact Z2k [1,UInt8.ofNat n.keys.length] L 2 _ rfl rfl
 have hsl:s.size<=100000:=by omega
 have HTX:Hid (∀(x:ByteArray) (r:List UInt8) W,x.size<=255->r.length<=100000->cQ 188 #[.string (bts (lenL x++r))] W fun e w'=>e= .returned (.tuple #[.string x,.string (bts r),.bool true])/\Ext W w'):=fun x r W h1 h2=>X3z x r W h1 h2;obtain⟨m,hm⟩:∃m,n.keys.length=m:=⟨_,rfl⟩;have HM:=hD hm;have HVL:Hid (n.vals.length=m):=by unfold Hid;omega
 rw[hs];rw[hm]at hbn;have hm255:m<=255:=by rw[<-hm];exact hn.many
 have HLEN:Hid (∀k,(Z2n n k++tail).length<=100000):=fun k=>by have:=Y8s n k;rw[aA];omega
 have q1:decide ((s.size:Int)<2)=false:=aM;have q2:(1:Int)<s.size:=by omega
 have q3:(0:Int)<s.size:=by omega
 have q4:(2:Int)<=s.size:=by omega
 have HN:=hD hn;have HLF:=hD hl;clear hs hss hb0 hb1 hnl hm hn hl hvl hkids hsz hL hLl;go_enter Tryz.func142,Tryz.ntmps142;go_wp2_with fail
 go_loopw [0,34] (fun sv i wr=>∃(k:Nat) (kv vv:Value),k<=m/\i= .int .i64 k/\sv= .string (bts (Z2n n k++tail))/\PM w wr n.leaf (n.keys.take k) (n.vals.take k) [] kv vv (.slice none 0 0)) (fun _ i _=>m-(intOf i).toNat)
 case atStart=>
  refine⟨0,.slice none 0 0,.slice none 0 0,by omega,rfl,rfl,?_⟩;rw[List.take_zero,List.take_zero,HLF.out];exact⟨(Row1.made w _ _).alloc _,Row1.made' (by simp) _ _,OwnL.nil _ _ _ _ _,OwnL.nil _ _ _ _ _,OwnL.nil _ _ _ _ _,(fun b q=>by cases q),by exact Xt⟩
 case round=>
  obtain⟨k,kv,vv,hk,rfl,rfl,hp⟩:=hrel;obtain⟨K,hK⟩:∃K,n.keys.take k=K:=⟨_,rfl⟩;obtain⟨V,hV⟩:∃V,n.vals.take k=V:=⟨_,rfl⟩;have hKl:K.length=k:=by rw[<-hK,aD,HM.out];omega
  have hVl:V.length=k:=by rw[<-hV,aD,HVL.out];omega
  have hok:=hp.ok;have hov:=hp.ov;rw[hK]at hok;rw[hV]at hov;obtain⟨kA,kc,rfl⟩:=OwnL.form hok;obtain⟨vA,vc,rfl⟩:=OwnL.form hov;rw[hKl]at hok;rw[hVl]at hov;rw[hKl,hVl]at hp;have HP:=hD hp;have HOK:=hD hok;have HOV:=hD hov;have HK:=hD hK;have HV:=hD hV;have HKL:=hD hKl;have HVV:=hD hVl;have hz:=hp.ext.size;have hb4:=hp.r4.lt;have r40:wr.cell? ⟨w.heap.size+1,0,none⟩=some (.bool true):=by rw[<-HLF.out];exact hp.r4.cell 0
  have r41:wr.cell? ⟨w.heap.size+1,1,none⟩=some (.slice kA k kc):=hp.r4.cell 1;have r42:wr.cell? ⟨w.heap.size+1,2,none⟩=some (.slice vA k vc):=hp.r4.cell 2;have r43:wr.cell? ⟨w.heap.size+1,3,none⟩=some (.slice none 0 0):=hp.r4.cell 3;clear hp hok hov hK hV hKl hVl;by_cases hkl:k<m
  ·have q5:decide ((k:Int)<m)=true:=aN;have q5':decide (k<m)=true:=decide_eq_true hkl;have hkk:k<n.keys.length:=by rw[HM.out];exact hkl
   have hkv:k<n.vals.length:=by rw[HVL.out];exact hkl
   have HST:Hid (Z2n n k++tail=lenL n.keys[k]++(lenL n.vals[k]++(Z2n n (k+1)++tail))):=by unfold Hid;rw[Y1z n hkk];unfold entL;rw[if_pos HLF.out,aB hkk,aB hkv];simp only[Option.getD_some,aG]
   have hk1:=HN.out.keys _ (List.getElem_mem hkk);have hv1:=HN.out.vals _ (List.getElem_mem hkv);have HK1:=hD (Z8e n.keys k hkk);have HV1:=hD (Z8e n.vals k hkv);obtain⟨x,hx⟩:∃x,n.keys[k]=x:=⟨_,rfl⟩;obtain⟨y,hy⟩:∃y,n.vals[k]=y:=⟨_,rfl⟩;obtain⟨R,hR⟩:∃R,Z2n n (k+1)++tail=R:=⟨_,rfl⟩;have HRR:=hD hR;rw[hx]at HST HK1 hk1;rw[hy]at HST HV1 hv1;rw[hR]at HST;rw[HST.out];have hRl:R.length<=100000:=by rw[<-hR];exact HLEN.out (k+1)
   have hRl2:(lenL y++R).length<=100000:=by have h1:=HLEN.out k;rw[HST.out,aA]at h1;omega
   have cT1:=fun W=>HTX.out x (lenL y++R) W hk1 hRl2;have cT2:=fun W=>HTX.out y R W hv1 hRl;have HV1000:Hid (V.length+1<=1000000000):=by have:=HVV.out;unfold Hid;omega
   have HK1000:Hid (K.length+1<=1000000000):=by have:=HKL.out;unfold Hid;omega
   have CT1:=hD cT1;have CT2:=hD cT2;clear hx hy hR cT1 cT2;go_wp2_with (first
    | (go_at_call 188;(with_reducible refine(CT1.out _).mono ?_);clear CT1;rintro e w1 ⟨rfl,hb1⟩;have HB1:=hD hb1;have hz1:=hb1.size;have HP1:=hD (HP.out.more hb1);have d40:w1.cell? ⟨w.heap.size+1,0,none⟩=some (.bool true):=(by rw[<-HLF.out];exact HP1.out.r4.cell 0);clear hb1)
    | (go_at_call 188;(with_reducible refine(CT2.out _).mono ?_);clear CT2;rintro e w2 ⟨rfl,hb2⟩;have hz2:=hb2.size;have HP2:=hD (HP1.out.more hb2);have HP2a:=hD (HP2.out.more (Ext.alloc w2 (.cells #[.string y] 9)));have hb42:=HP2.out.r4.lt;have e42:w2.cell? ⟨w.heap.size+1,2,none⟩=some (.slice vA k vc):=HP2.out.r4.cell 2;have G1:=HP2a.out.ov;have G2:w.heap.size+2<=(w2.alloc (.cells #[.string y] 9)).heap.size:=(by rw[World.size_alloc];omega);rw[HV.out]at G1;have G1:=hD G1;have G2:=hD G2;have HNE:Hid (some (w.heap.size+1)≠(Value.slice vA k vc).ownBlock):=(fun e=>HP2a.out.ov.apartRow HP2a.out.r4 (by decide) e.symm);have HP2v:=HP2a.out;rw[HV.out]at HP2v;have HP2v:=hD HP2v;clear hb2)
    | (at_builtin;refine Z0u elStr Z0d Z1n rfl (.tmp 55) (.tmp 57) rfl (.slice vA k vc) V rfl G1.out G2.out w2.heap.size 1 y rfl (Row1.made w2 _ (encS y)) HV1000.out (by decide) ?_;intro A3 c3 w3 hown3 hgr3 hwh3;have HLV:(V++ [y]).length=k+1:=(by rw[aA,HVV.out];rfl);rw[HLV]at hown3 hwh3 ⊢;have HP3:=hD (PM.pushV HP2v.out hown3 hgr3 hwh3);have HR3:=HP2a.out.r4.grown hgr3 HNE.out;have t41:w3.cell? ⟨w.heap.size+1,1,none⟩=some (.slice kA k kc):=HR3.cell 1;have t42:w3.cell? ⟨w.heap.size+1,2,none⟩=some (.slice vA k vc):=HR3.cell 2;have tf2:w3.frozen? ⟨w.heap.size+1,2,none⟩=false:=HR3.soft 2;have hz3:=HP3.out.r4.lt;have HP3a:=HP3.out.more (Ext.alloc _ (.cells #[.string x] 9));have HNK:Hid (some (w.heap.size+1)≠(Value.slice kA k kc).ownBlock):=(fun e=>HP3a.ok.apartRow HP3a.r4 (by decide) e.symm);rw[HK.out]at HP3a;have HP3a:=hD HP3a;have G3:Hid (w.heap.size+2<=((w3.setCell ⟨w.heap.size+1,2,none⟩ (.slice A3 (k+1) c3)).alloc (.cells #[.string x] 9)).heap.size):=(by unfold Hid;rw[World.size_alloc,Z1z];have:=HP3.out.r4.lt;rw[Z1z]at this;omega);have G5:Hid (Row1 ((w3.setCell ⟨w.heap.size+1,2,none⟩ (.slice A3 (k+1) c3)).alloc (.cells #[.string x] 9)) w3.heap.size 9 (encS x)):=(Row1.made' (Z1z _ _ _) _ (encS x));clear hown3 hgr3 hwh3 HR3 HLV G1 G2)
    | (at_builtin;go_loud (refine Z0u elStr Z0d Z1n rfl (.tmp 64) (.tmp 66) rfl (.slice kA k kc) K rfl HP3a.out.ok G3.out w3.heap.size 1 x rfl G5.out HK1000.out (by decide) ?_;intro A4 c4 w4 hown4 hgr4 hwh4;have HLK:(K++ [x]).length=k+1:=(by rw[aA,HKL.out];rfl);rw[HLK]at hown4 hwh4 ⊢;have HP4:=hD (PM.pushK HP3a.out hown4 hgr4 hwh4);have HR4:=HP3a.out.r4.grown hgr4 HNK.out;have v41:w4.cell? ⟨w.heap.size+1,1,none⟩=some (.slice kA k kc):=HR4.cell 1;have vf1:w4.frozen? ⟨w.heap.size+1,1,none⟩=false:=HR4.soft 1;clear hown4 hgr4 hwh4 HR4 HLK)))
   go_roundw
   case rel=>exact⟨k+1,_,_,by omega,by go_num,by rw[HRR.out],by rw[HK1.out,HK.out,HV1.out,HV.out];exact HP4.out⟩
   case measure=>simp[intOf];omega
  ·obtain rfl:k=m:=by omega
   have q5:decide ((k:Int)<k)=false:=aM;have z0:wr.cell? ⟨w.heap.size,0,none⟩=some (.bool false):=HP.out.r2.cell 0;have z1:wr.cell? ⟨w.heap.size,1,none⟩=some (.slice none 0 0):=HP.out.r2.cell 1;have z2:wr.cell? ⟨w.heap.size,2,none⟩=some (.slice none 0 0):=HP.out.r2.cell 2;have z3:wr.cell? ⟨w.heap.size,3,none⟩=some (.slice none 0 0):=HP.out.r2.cell 3;have f0:wr.frozen? ⟨w.heap.size,0,none⟩=false:=HP.out.r2.soft 0;have f1:wr.frozen? ⟨w.heap.size,1,none⟩=false:=HP.out.r2.soft 1;have f2:wr.frozen? ⟨w.heap.size,2,none⟩=false:=HP.out.r2.soft 2;have f3:wr.frozen? ⟨w.heap.size,3,none⟩=false:=HP.out.r2.soft 3;go_wp2_with fail;refine bodyPost_ret (X4i rfl _ _ w.heap.size n (.slice kA k kc) (.slice vA k vc) (.slice none 0 0) _ rfl rfl (by rw[HLF.out];exact((((HP.out.r2.set 0 _).set 1 _).set 2 _).set 3 _))) rfl ?_;obtain⟨d1,d2⟩:=HP.out.done (X0l w.heap.size (.bool true) (.slice kA k kc) (.slice vA k vc) (.slice none 0 0));rw[List.take_of_length_le (by rw[HM.out];exact aF _),List.take_of_length_le (by rw[HVL.out];exact aF _)]at d1;refine⟨.slice kA k kc,.slice vA k vc,.slice none 0 0,rfl,?_,d2⟩;have hk0:=(HN.out.leafs HLF.out).2;obtain⟨lf,ks,vs,cs⟩:=n;dsimp only at hk0 d1 ⊢;subst hk0;exact d1
theorem V7n(n:NodeD)(j:Nat):(Z5x n j).length<=(Z5x n 0).length:=by
 have h:∀l:List Int,(l.flatMap kidL).length=2*l.length:=fun l=>by
  induction l with
  | nil=>rfl
  | cons c r ih=>rw[aI,aA,ih,List.length_cons];show 2+_=_;omega
 unfold Z5x;rw[h,h,aJ,aJ];omega
theorem or16(a b:Nat)(ha:a<256)(hb:b<256):bits .or .i64 (a:Int) ((b:Int)*256)=((a+b*256:Nat):Int):=by
 have e:(b:Int)*256=((b*256:Nat):Int):=by omega
 rw[e];show IntKind.i64.wrap ((BitVec.ofInt 64 ((a:Nat):Int) ||| BitVec.ofInt 64 ((b*256:Nat):Int)).toNat:Int)=_;rw[BitVec.toNat_or,BitVec.ofInt_natCast,BitVec.ofInt_natCast,BitVec.toNat_ofNat,BitVec.toNat_ofNat,Nat.mod_eq_of_lt (by omega),Nat.mod_eq_of_lt (by omega),Nat.or_comm,Nat.mul_comm b,show(256:Nat)=2 ^ 8 from rfl,<-Nat.two_pow_add_eq_or_of_lt (show a<2 ^ 8 by omega) b,IntKind.wrap_i64];omega
theorem X8h(n:NodeD){m:Nat}(h:n.keys.length=m):Z2n n m= []:=by rw[<-h];exact V3z n
theorem Y6c(l:List Int)(k:Nat)(h:k<l.length):l.take (k+1)=l.take k++ [l[k]]:=by rw[List.take_add_one,aB h];rfl
theorem X2j(n:NodeD)(tail:List UInt8)(w:World)(hn:NodeOk n)(hl:n.leaf=false)(hsz:(Z2g n).length+tail.length<=100000):
  cQ 142 #[.string (bts (Z2g n++tail))] w fun e w'=>∃kv vv cv,e= .returned (.tuple #[X2o n kv vv cv,.int .i64 0])/\NodeAs w' (fun i=>w.heap.size<=i) n kv vv cv/\Ext w w':=by
 obtain⟨hvl,hkids⟩:=hn.inner hl;have hnl:Z2g n++tail=2::UInt8.ofNat n.keys.length::(Z2n n 0++(Z5x n 0++tail)):=by unfold Z2g;rw[if_neg (by rw[hl];simp),List.cons_append,List.cons_append,aG]
 rw[hnl];obtain⟨tail1,ht1⟩:∃t,Z5x n 0++tail=t:=⟨_,rfl⟩;have HT1:=hD ht1;rw[ht1]at hnl ⊢;have hsz:(Z2n n 0).length+tail1.length+2<=100000:=by have h1:=congrArg List.length hnl;simp only[aA,List.length_cons]at h1;omega
 obtain⟨L,hL⟩:∃L,Z2n n 0++tail1=L:=⟨_,rfl⟩;have hLl:L.length=(Z2n n 0).length+tail1.length:=by rw[<-hL,aA]
 rw[hL];obtain⟨s,hs⟩:∃s,bts (2::UInt8.ofNat n.keys.length::L)=s:=⟨_,rfl⟩;have hss:s.size=2+L.length:=by rw[<-hs,Z0e];simp;omega
 have hs0:0<s.size:=by omega
 have hs1:1<s.size:=by omega
 have hb0:s[0]=2:=by subst hs;exact Y5e [] _ 2 0 rfl hs0
 have hb1:s[1]=UInt8.ofNat n.keys.length:=by subst hs;exact Y5e [2] _ _ 1 rfl hs1
 have hbn:(s[1].toNat:Int)=n.keys.length:=by rw[hb1,UInt8.toNat_ofNat_of_lt' (by have:=hn.many;show n.keys.length<256;omega)]
 have hbz:(s[0].toNat:Int)=2:=by rw[hb0];rfl
 have he2:s.extract 2 s.size=bts (Z2n n 0++tail1):=by rw[hss,<-hs,hL];exact Z2k [2,UInt8.ofNat n.keys.length] L 2 _ rfl rfl
 have hsl:s.size<=100000:=by omega
 have HTX:Hid (∀(x:ByteArray) (r:List UInt8) W,x.size<=255->r.length<=100000->cQ 188 #[.string (bts (lenL x++r))] W fun e w'=>e= .returned (.tuple #[.string x,.string (bts r),.bool true])/\Ext W w'):=fun x r W h1 h2=>X3z x r W h1 h2;obtain⟨m,hm⟩:∃m,n.keys.length=m:=⟨_,rfl⟩;have HM:=hD hm;have HVL:Hid (n.vals= []/\n.kids.length=m+1):=⟨hvl,by rw[hkids,hm]⟩;rw[hs];rw[hm]at hbn;have hm255:m<=255:=by rw[<-hm];exact hn.many
 have HLEN:Hid (∀k,(Z2n n k++tail1).length<=100000):=fun k=>by have:=Y8s n k;rw[aA];omega
 have q1:decide ((s.size:Int)<2)=false:=aM;have q2:(1:Int)<s.size:=by omega
 have q3:(0:Int)<s.size:=by omega
 have q4:(2:Int)<=s.size:=by omega
 have HN:=hD hn;have HLF:=hD hl;have HTL:Hid (∀j,(Z5x n j++tail).length<=100000):=fun j=>by have h1:=V7n n j;have h2:=congrArg List.length ht1;rw[aA]at h2 ⊢;omega
 clear hs hss hb0 hb1 hnl hm hn hl hvl hkids hsz hL hLl ht1;go_enter Tryz.func142,Tryz.ntmps142;go_wp2_with fail
 go_loopw [0,34] (fun sv i wr=>∃(k:Nat) (kv:Value),k<=m/\i= .int .i64 k/\sv= .string (bts (Z2n n k++tail1))/\PM w wr n.leaf (n.keys.take k) [] [] kv (.slice none 0 0) (.slice none 0 0)) (fun _ i _=>m-(intOf i).toNat)
 case atStart=>
  refine⟨0,.slice none 0 0,by omega,rfl,rfl,?_⟩;rw[List.take_zero,HLF.out];exact⟨(Row1.made w _ _).alloc _,Row1.made' (by simp) _ _,OwnL.nil _ _ _ _ _,OwnL.nil _ _ _ _ _,OwnL.nil _ _ _ _ _,(fun b q=>by cases q),by exact Xt⟩
 case round=>
  obtain⟨k,kv,hk,rfl,rfl,hp⟩:=hrel;obtain⟨K,hK⟩:∃K,n.keys.take k=K:=⟨_,rfl⟩;have hKl:K.length=k:=by rw[<-hK,aD,HM.out];omega
  have hok:=hp.ok;rw[hK]at hok;obtain⟨kA,kc,rfl⟩:=OwnL.form hok;rw[hKl]at hp;have HP:=hD hp;have HK:=hD hK;have HKL:=hD hKl;have hz:=hp.ext.size;have hb4:=hp.r4.lt;have r40:wr.cell? ⟨w.heap.size+1,0,none⟩=some (.bool false):=by rw[<-HLF.out];exact hp.r4.cell 0
  have r41:wr.cell? ⟨w.heap.size+1,1,none⟩=some (.slice kA k kc):=hp.r4.cell 1;have r42:wr.cell? ⟨w.heap.size+1,2,none⟩=some (.slice none 0 0):=hp.r4.cell 2;have r43:wr.cell? ⟨w.heap.size+1,3,none⟩=some (.slice none 0 0):=hp.r4.cell 3;clear hp hok hK hKl;by_cases hkl:k<m
  ·have q5:decide ((k:Int)<m)=true:=aN;have q5':decide (k<m)=true:=decide_eq_true hkl;have hkk:k<n.keys.length:=by rw[HM.out];exact hkl
   have HST:Hid (Z2n n k++tail1=lenL n.keys[k]++(Z2n n (k+1)++tail1)):=by unfold Hid;rw[Y1z n hkk];unfold entL;rw[if_neg (by rw[HLF.out];simp),aB hkk];simp only[Option.getD_some,aG,List.nil_append]
   have hk1:=HN.out.keys _ (List.getElem_mem hkk);have HK1:=hD (Z8e n.keys k hkk);obtain⟨x,hx⟩:∃x,n.keys[k]=x:=⟨_,rfl⟩;obtain⟨R,hR⟩:∃R,Z2n n (k+1)++tail1=R:=⟨_,rfl⟩;have HRR:=hD hR;rw[hx]at HST HK1 hk1;rw[hR]at HST;rw[HST.out];have hRl:R.length<=100000:=by rw[<-hR];exact HLEN.out (k+1)
   have cT1:=fun W=>HTX.out x R W hk1 hRl;have HK1000:Hid (K.length+1<=1000000000):=by have:=HKL.out;unfold Hid;omega
   have CT1:=hD cT1;clear hx hR cT1;go_wp2_with (first
    | (go_at_call 188;(with_reducible refine(CT1.out _).mono ?_);clear CT1;rintro e w1 ⟨rfl,hb1⟩;have hz1:=hb1.size;have HP1:=hD (HP.out.more hb1);have d40:w1.cell? ⟨w.heap.size+1,0,none⟩=some (.bool false):=(by rw[<-HLF.out];exact HP1.out.r4.cell 0);have d41:w1.cell? ⟨w.heap.size+1,1,none⟩=some (.slice kA k kc):=HP1.out.r4.cell 1;have HP3a:=HP1.out.more (Ext.alloc _ (.cells #[.string x] 9));have HNK:Hid (some (w.heap.size+1)≠(Value.slice kA k kc).ownBlock):=(fun e=>HP3a.ok.apartRow HP3a.r4 (by decide) e.symm);rw[HK.out]at HP3a;have HP3a:=hD HP3a;have G3:Hid (w.heap.size+2<=(w1.alloc (.cells #[.string x] 9)).heap.size):=(by unfold Hid;rw[World.size_alloc];have:=HP1.out.r4.lt;omega);clear hb1)
    | (at_builtin;go_loud (refine Z0u elStr Z0d Z1n rfl (.tmp 64) (.tmp 66) rfl (.slice kA k kc) K rfl HP3a.out.ok G3.out w1.heap.size 1 x rfl (Row1.made w1 _ (encS x)) HK1000.out (by decide) ?_;intro A4 c4 w4 hown4 hgr4 hwh4;have HLK:(K++ [x]).length=k+1:=(by rw[aA,HKL.out];rfl);rw[HLK]at hown4 hwh4 ⊢;have HP4:=hD (PM.pushK HP3a.out hown4 hgr4 hwh4);have HR4:=HP3a.out.r4.grown hgr4 HNK.out;have v41:w4.cell? ⟨w.heap.size+1,1,none⟩=some (.slice kA k kc):=HR4.cell 1;have vf1:w4.frozen? ⟨w.heap.size+1,1,none⟩=false:=HR4.soft 1;clear hown4 hgr4 hwh4 HR4 HLK)))
   go_roundw
   case rel=>exact⟨k+1,_,by omega,by go_num,by rw[HRR.out],by rw[HK1.out,HK.out];exact HP4.out⟩
   case measure=>simp[intOf];omega
  ·obtain rfl:k=m:=by omega
   have q5:decide ((k:Int)<k)=false:=aM;have HKE:Hid (K=n.keys):=by rw[<-HK.out,List.take_of_length_le (by rw[HM.out];exact aF _)];exact rfl
   have HP:=hD (show PM w wr n.leaf n.keys [] [] (.slice kA k kc) (.slice none 0 0) (.slice none 0 0)by rw[<-HKE.out,<-HK.out];exact HP.out);rw[X8h n HM.out,List.nil_append,<-HT1.out];go_wp2_with fail;clear r40 r41 r42 r43
   go_loopw [0,76] (fun sv i wq=>∃(j:Nat) (cv:Value),j<=k+1/\i= .int .i64 j/\sv= .string (bts (Z5x n j++tail))/\PM w wq n.leaf n.keys [] (n.kids.take j) (.slice kA k kc) (.slice none 0 0) cv) (fun _ i _=>k+1-(intOf i).toNat)
   case atStart=>exact⟨0,_,by omega,rfl,rfl,by rw[List.take_zero];exact HP.out⟩
   case round=>
    obtain⟨j,cv,hj,rfl,rfl,hp⟩:=hrel;obtain⟨C,hC⟩:∃C,n.kids.take j=C:=⟨_,rfl⟩;have hCl:C.length=j:=by rw[<-hC,aD,HVL.out.2];omega
    have hoc:=hp.oc;rw[hC]at hoc;obtain⟨cA,cc,rfl⟩:=OwnL.form hoc;rw[hCl]at hp;have HQ:=hD hp;have HC:=hD hC;have HCL:=hD hCl;have hzq:=hp.ext.size;have hq4:=hp.r4.lt;have r40:wr.cell? ⟨w.heap.size+1,0,none⟩=some (.bool false):=by rw[<-HLF.out];exact hp.r4.cell 0
    have r41:wr.cell? ⟨w.heap.size+1,1,none⟩=some (.slice kA k kc):=hp.r4.cell 1;have r42:wr.cell? ⟨w.heap.size+1,2,none⟩=some (.slice none 0 0):=hp.r4.cell 2;have r43:wr.cell? ⟨w.heap.size+1,3,none⟩=some (.slice cA j cc):=hp.r4.cell 3;clear hp hoc hC hCl;by_cases hjl:j<k+1
    ·have q6:decide ((j:Int)<k+1)=true:=aN;have q6':decide (j<k+1)=true:=decide_eq_true hjl;have hjk:j<n.kids.length:=by rw[HVL.out.2];exact hjl
     have hc0:=HN.out.kids _ (List.getElem_mem hjk);have HC1:=hD (Y6c n.kids j hjk);have HST:Hid (Z5x n j++tail=UInt8.ofNat (n.kids[j].toNat%256)::UInt8.ofNat (n.kids[j].toNat/256%256)::(Z5x n (j+1)++tail)):=by unfold Hid;rw[X7u n hjk];rfl
     obtain⟨c,hc⟩:∃c:Nat,n.kids[j]=c:=⟨n.kids[j].toNat,by omega⟩;rw[hc]at HST HC1 hc0;obtain⟨R,hR⟩:∃R,Z5x n (j+1)++tail=R:=⟨_,rfl⟩;have HRR:=hD hR;rw[hR,Int.toNat_natCast]at HST;have hRl:R.length<=100000:=by rw[<-hR];exact HTL.out (j+1)
     obtain⟨b0,hb0⟩:∃b,c%256=b:=⟨_,rfl⟩;obtain⟨b1,hb1⟩:∃b,c/256%256=b:=⟨_,rfl⟩;have hcb:c=b0+b1*256:=by omega
     have hb0l:b0<256:=by omega
     have hb1l:b1<256:=by omega
     rw[hb0,hb1]at HST;obtain⟨u,hu⟩:∃u,bts (UInt8.ofNat b0::UInt8.ofNat b1::R)=u:=⟨_,rfl⟩;have hus:u.size=2+R.length:=by rw[<-hu,Z0e];simp;omega
     have hu0:0<u.size:=by omega
     have hu1:1<u.size:=by omega
     have e0:(u[0].toNat:Int)=b0:=by
      have:u[0]=UInt8.ofNat b0:=by subst hu;exact Y5e [] _ _ 0 rfl hu0
      rw[this,UInt8.toNat_ofNat_of_lt' hb0l]
     have e1:(u[1].toNat:Int)=b1:=by
      have:u[1]=UInt8.ofNat b1:=by subst hu;exact Y5e [UInt8.ofNat b0] _ _ 1 rfl hu1
      rw[this,UInt8.toNat_ofNat_of_lt' hb1l]
     have e2:u.extract 2 u.size=bts R:=by rw[hus,<-hu];exact Z2k [UInt8.ofNat b0,UInt8.ofNat b1] R 2 _ rfl rfl
     have q7:decide ((u.size:Int)<2)=false:=aM;have q8:(1:Int)<u.size:=by omega
     have q9:(0:Int)<u.size:=by omega
     have q10:(2:Int)<=u.size:=by omega
     have x0:IntKind.i64.wrap (b0:Int)=b0:=by rw[IntKind.wrap_i64];omega
     have x1:IntKind.i64.wrap (b1:Int)=b1:=by rw[IntKind.wrap_i64];omega
     have x2:IntKind.i64.wrap ((b1:Int)*256)=(b1:Int)*256:=by rw[IntKind.wrap_i64];omega
     have x3:bits .or .i64 (b0:Int) ((b1:Int)*256)=(c:Int):=by rw[or16 b0 b1 hb0l hb1l,<-hcb]
     have q11:(b0:Int)<256:=by omega
     have q12:(b1:Int)<256:=by omega
     rw[HST.out,hu];have HCB:=hD hcb;clear hu hb0 hb1 hc hR hus hcb;go_upto_region 25 with fail;have HQm:Hid (∀W,Ext wr W->PM w W n.leaf n.keys [] C (.slice kA k kc) (.slice none 0 0) (.slice cA j cc)):=fun W hW=>by rw[<-HC.out];exact HQ.out.more hW
     have HBX:Hid (∀W,Ext wr W->w.heap.size+2<=W.heap.size):=fun W hW=>by have:=hW.size;omega
     have HNC:Hid (some (w.heap.size+1)≠(Value.slice cA j cc).ownBlock):=(fun e=>HQ.out.oc.apartRow HQ.out.r4 (by decide) e.symm);have HC1000:Hid (C.length+1<=1000000000):=by have:=HCL.out;unfold Hid;omega
     have HLC:Hid ((C++ [(c:Int)]).length=j+1):=by unfold Hid;rw[aA,HCL.out];rfl
     go_region_law (refine Z8f elInt Z0j Z2s rfl (.tmp 83) (.tmp 92) rfl (.slice cA j cc) C rfl (HQm.out _ (by exact Xt)).oc (HBX.out _ (by exact Xt)) _ 1 (c:Int) rfl (Row1.made' (by simp) _ (encN c)) HC1000.out (by decide) ?_;intro A5 c5 w5 hown5 hgr5 hwh5;rw[HLC.out]at hown5 ⊢;have HR5:=Row1.grown (HQm.out _ (by exact Xt)).r4 hgr5 HNC.out;have g5:w5.cell? ⟨w.heap.size+1,3,none⟩=_:=HR5.cell 3;have vf5:w5.frozen? ⟨w.heap.size+1,3,none⟩=false:=HR5.soft 3)
     all_goals
      have HQ5:=hD (PM.pushC (HQm.out _ (by exact Xt)) hown5 hgr5);clear hown5 hgr5 hwh5 HR5;go_wp2_with fail
      go_roundw
      case rel=>exact⟨j+1,_,by omega,by go_num,by rw[HRR.out],by rw[HC1.out,HC.out];exact HQ5.out⟩
      case measure=>simp[intOf];omega
    ·obtain rfl:j=k+1:=by omega
     have q6:decide (((k+1:Nat):Int)<k+1)=false:=aM;have q6':decide (k+1<k+1)=false:=aM;have z0:wr.cell? ⟨w.heap.size,0,none⟩=some (.bool false):=HQ.out.r2.cell 0;have z1:wr.cell? ⟨w.heap.size,1,none⟩=some (.slice none 0 0):=HQ.out.r2.cell 1;have z2:wr.cell? ⟨w.heap.size,2,none⟩=some (.slice none 0 0):=HQ.out.r2.cell 2;have z3:wr.cell? ⟨w.heap.size,3,none⟩=some (.slice none 0 0):=HQ.out.r2.cell 3;have f0:wr.frozen? ⟨w.heap.size,0,none⟩=false:=HQ.out.r2.soft 0;have f1:wr.frozen? ⟨w.heap.size,1,none⟩=false:=HQ.out.r2.soft 1;have f2:wr.frozen? ⟨w.heap.size,2,none⟩=false:=HQ.out.r2.soft 2;have f3:wr.frozen? ⟨w.heap.size,3,none⟩=false:=HQ.out.r2.soft 3;go_wp2_with fail;refine bodyPost_ret (X4i rfl _ _ w.heap.size n (.slice kA k kc) (.slice none 0 0) (.slice cA (k+1) cc) _ rfl rfl (by rw[HLF.out];exact((((HQ.out.r2.set 0 _).set 1 _).set 2 _).set 3 _))) rfl ?_;obtain⟨d1,d2⟩:=HQ.out.done (X0l w.heap.size (.bool false) (.slice kA k kc) (.slice none 0 0) (.slice cA (k+1) cc));rw[List.take_of_length_le (by rw[HVL.out.2];exact aF _)]at d1;refine⟨.slice kA k kc,.slice none 0 0,.slice cA (k+1) cc,rfl,?_,d2⟩;have hk0:=HVL.out.1;obtain⟨lf,ks,vs,cs⟩:=n;dsimp only at hk0 d1 ⊢;subst hk0;exact d1
theorem V4c(l:List Int)(j:Nat)(hj:j<l.length):(l.flatMap encN)[j]? =some (.int .i64 l[j]):=by have:=Z3j encN 1 Z0j l j _ (aB hj) 0 _ rfl;simpa using this
theorem X0i{w:World}{base:Nat}{e:TypeId}{v:Value}{l:List Int}(h:OwnL w base e 1 encN v l):∃A c,v= .slice A l.length c/\l.length<=c/\c<=9223372036854775807/\
  (0<l.length->∃b,A=some ⟨b,0,none⟩/\base<=b/\b<w.heap.size/\(∀i,w.frozen? ⟨b,i,none⟩=false)/\∀i (hi:i<l.length),w.cell? ⟨b,i,none⟩=some (.int .i64 l[i])):=by
 have h':w.ownsRow base e 1 v l.length (l.flatMap encN):=h;obtain⟨A,c,rfl,h1,h2,h3⟩:=Z3c h';exact⟨A,c,rfl,h1,h2,fun h0=>by
  obtain⟨b,q1,q2,q3,q4,q5⟩:=h3 h0;exact⟨b,q1,q2,q3,q4,fun i hi=>q5 i _ (V4c l i hi)⟩⟩
theorem Z8l(l:List ByteArray)(k:Nat)(h:k<l.length):Z0o (l.take (k+1))=Z0o (l.take k)+(1+l[k].size):=by rw[Z8e l k h];unfold Z0o;rw[List.map_append,List.sum_append];simp
theorem V7o{l:List ByteArray}(h:∀k∈l,k.size<=1000):Z0o l<=1001*l.length:=by
 induction l with
 | nil=>simp[Z0o]
 | cons a r ih=>
   have:=ih (fun k hk=>h k (by simp[hk]));have:=h a (by simp);simp only[Z0o,List.map_cons,List.sum_cons,List.length_cons]at *;omega
theorem Y6m{l:List ByteArray}(h:∀k∈l,k.size<=1000)(i:Nat):Z0o (l.take i)<=1001*l.length:=by
 have h1:=V7o (l:=l.take i) (fun k hk=>h k (List.mem_of_mem_take hk));have h2:(l.take i).length<=l.length:=by rw[aD];omega
 have:=Nat.mul_le_mul_left 1001 h2;omega
structure Fair (n:NodeD):Prop where
 keys:∀k∈n.keys,k.size<=1000
 vals:∀k∈n.vals,k.size<=1000
 k:n.keys.length<=10000
 v:n.vals.length<=10000
 c:n.kids.length<=10000
structure NodeRd (w:World) (n:NodeD) (kv vv cv:Value):Prop where
 keys:Sl w 1 (fun x cs=>cs=encS x) kv n.keys
 vals:Sl w 1 (fun x cs=>cs=encS x) vv n.vals
 kids:Sl w 1 (fun x cs=>cs=encN x) cv n.kids
theorem NodeRd.ext{w w':World}{n:NodeD}{kv vv cv:Value}(h:NodeRd w n kv vv cv)(hb:Ext w w'):NodeRd w' n kv vv cv:=⟨h.keys.ext hb,h.vals.ext hb,h.kids.ext hb⟩
theorem NodeAs.rd{w:World}{F:Nat->Prop}{n:NodeD}{kv vv cv:Value}(h:NodeAs w F n kv vv cv):NodeRd w n kv vv cv:=
 ⟨OwnL.sl Z0d (fun _=>rfl) h.keys,OwnL.sl Z0d (fun _=>rfl) h.vals,OwnL.sl Z0j (fun _=>rfl) h.kids⟩
theorem Z3y{w:World}{v:Value}{l:List ByteArray}(h:Sl w 1 (fun x cs=>cs=encS x) v l):∃A c,v= .slice A l.length c/\l.length<=c/\c<=9223372036854775807/\
  (0<l.length->∃b off,A=some ⟨b,off,none⟩/\b<w.heap.size/\∀i (hi:i<l.length),w.cell? ⟨b,off+i,none⟩=some (.string l[i])):=by
 obtain⟨A,c,rfl⟩:=h.form;obtain⟨_,h1,h2,h3⟩:=h.at;refine⟨A,c,rfl,h1,h2,fun h0=> ?_⟩;obtain⟨b,off,rfl,hb,hx⟩:=h3 h0;refine⟨b,off,rfl,hb,fun i hi=> ?_⟩;obtain⟨cs,rfl,_,hc⟩:=hx i hi;have:=hc 0 _ rfl;simpa using this
theorem Z9u{w:World}{v:Value}{l:List Int}(h:Sl w 1 (fun x cs=>cs=encN x) v l):∃A c,v= .slice A l.length c/\l.length<=c/\c<=9223372036854775807/\
  (0<l.length->∃b off,A=some ⟨b,off,none⟩/\b<w.heap.size/\∀i (hi:i<l.length),w.cell? ⟨b,off+i,none⟩=some (.int .i64 l[i])):=by
 obtain⟨A,c,rfl⟩:=h.form;obtain⟨_,h1,h2,h3⟩:=h.at;refine⟨A,c,rfl,h1,h2,fun h0=> ?_⟩;obtain⟨b,off,rfl,hb,hx⟩:=h3 h0;refine⟨b,off,rfl,hb,fun i hi=> ?_⟩;obtain⟨cs,rfl,_,hc⟩:=hx i hi;have:=hc 0 _ rfl;simpa using this
theorem X2a{n:NodeD}{kv vv cv:Value}(w:World)(h:NodeRd w n kv vv cv)(hf:Fair n):
  cQ 186 #[.agg #[.bool n.leaf,kv,vv,cv]] w fun e w'=>e= .returned (.int .i64 (Z0n n))/\Ext w w':=by
 obtain⟨kA,kc,rfl,_,_,hkx⟩:=Z3y h.keys;obtain⟨vA,vc,rfl,_,_,hvx⟩:=Z3y h.vals;obtain⟨cA,cc,rfl,_,_,_⟩:=Z9u h.kids;have HKX:=hD hkx;have HVX:=hD hvx;have HSN:Hid (Z0n n=2+2*n.kids.length+Z0o n.keys+Z0o n.vals):=rfl;have HK1:Hid (∀k (h:k<n.keys.length),Z0o (n.keys.take (k+1))=Z0o (n.keys.take k)+(1+n.keys[k].size)):=fun k h=>Z8l _ k h;have HV1:Hid (∀k (h:k<n.vals.length),Z0o (n.vals.take (k+1))=Z0o (n.vals.take k)+(1+n.vals[k].size)):=fun k h=>Z8l _ k h;have HKB:Hid (∀k,Z0o (n.keys.take k)<=10010000):=fun k=>by have:=Y6m hf.keys k;have:=hf.k;omega
 have HVB:Hid (∀k,Z0o (n.vals.take k)<=10010000):=fun k=>by have:=Y6m hf.vals k;have:=hf.v;omega
 have HKS:Hid (∀k (h:k<n.keys.length),n.keys[k].size<=1000):=fun k h=>hf.keys _ (List.getElem_mem h);have HVS:Hid (∀k (h:k<n.vals.length),n.vals[k].size<=1000):=fun k h=>hf.vals _ (List.getElem_mem h);have HKE:Hid (Z0o (n.keys.take n.keys.length)=Z0o n.keys):=by unfold Hid;rw[List.take_length]
 have HVE:Hid (Z0o (n.vals.take n.vals.length)=Z0o n.vals):=by unfold Hid;rw[List.take_length]
 obtain⟨K,hK⟩:∃K,n.keys.length=K:=⟨_,rfl⟩;obtain⟨V,hV⟩:∃V,n.vals.length=V:=⟨_,rfl⟩;obtain⟨C,hC⟩:∃C,n.kids.length=C:=⟨_,rfl⟩;have HK:=hD hK;have HV:=hD hV;have HC:=hD hC;have hfk:=hf.k;have hfv:=hf.v;have hfc:=hf.c;rw[hK]at hfk ⊢;rw[hV]at hfv ⊢;rw[hC]at hfc ⊢;obtain⟨lf,hlf⟩:∃lf,n.leaf=lf:=⟨_,rfl⟩;rw[hlf];have HRW:Hid (∀W,Ext (w.alloc (.cells #[.bool lf,.slice kA K kc,.slice vA V vc,.slice cA C cc] 166)) W->W.cell? ⟨w.heap.size,1,none⟩=some (.slice kA K kc)/\W.cell? ⟨w.heap.size,2,none⟩=some (.slice vA V vc)):=fun W hW=>by have hr:=(Row1.made w 166 [.bool lf,.slice kA K kc,.slice vA V vc,.slice cA C cc]).ext hW (by simp);exact⟨hr.cell 1,hr.cell 2⟩
 clear h hkx hvx hf hK hV hC hlf;go_enter Tryz.func186,Tryz.ntmps186;go_wp2_with fail
 go_loop [3,16] (fun b i=>∃k q:Nat,k<=K/\i= .int .i64 k/\q=2+2*C+Z0o (n.keys.take k)/\b= .int .i64 q) (fun _ i=>K-(intOf i).toNat)
 case atStart=>exact⟨0,2+2*C,by omega,rfl,by simp[Z0o],by go_num⟩
 case round=>
  obtain⟨k,q,hk,rfl,hq,rfl⟩:=hrel;have HQ:=hD hq;have hqb:q<=20000000:=by have:=HKB.out k;omega
  clear hq;obtain⟨d1,d2⟩:=HRW.out _ (Ext.refl _);by_cases hkl:k<K
  ·have q1:decide ((k:Int)<K)=true:=aN;have q1':decide (k<K)=true:=decide_eq_true hkl;have hkk:k<n.keys.length:=by rw[HK.out];exact hkl
   obtain⟨b,off,rfl,hbl,hcell⟩:=HKX.out (by omega);have c0:(w.alloc (.cells #[.bool lf,.slice (some ⟨b,off,none⟩) K kc,.slice vA V vc,.slice cA C cc] 166)).cell? ⟨b,off+k,none⟩=_:=((Ext.alloc w _).cell (p:=⟨b,off+k,none⟩) hbl).trans (hcell k hkk);have hxs:=HKS.out k hkk;have HST:=hD (HK1.out k hkk);obtain⟨x,hx⟩:∃x,n.keys[k]=x:=⟨_,rfl⟩;rw[hx]at c0 hxs HST;clear hx hcell;go_wp2_with fail
   go_round
   case rel=>exact⟨k+1,q+(1+x.size),by omega,by go_num,by rw[HST.out,HQ.out];omega,by go_num⟩
   case measure=>simp[intOf];omega
  ·obtain rfl:k=K:=by omega
   have q1:decide ((k:Int)<k)=false:=aM;have HQ1:Hid (q=2+2*C+Z0o n.keys):=by unfold Hid;rw[HQ.out,<-HKE.out,HK.out]
   go_wp2_with fail
   go_loop [3,29] (fun b i=>∃j r:Nat,j<=V/\i= .int .i64 j/\r=q+Z0o (n.vals.take j)/\b= .int .i64 r) (fun _ i=>V-(intOf i).toNat)
   case atStart=>exact⟨0,q,by omega,rfl,by simp[Z0o],rfl⟩
   case round=>
    obtain⟨j,r,hj,rfl,hr,rfl⟩:=hrel;have HR:=hD hr;have hrb:r<=40000000:=by have:=HVB.out j;omega
    clear hr;by_cases hjl:j<V
    ·have q2:decide ((j:Int)<V)=true:=aN;have q2':decide (j<V)=true:=decide_eq_true hjl;have hjk:j<n.vals.length:=by rw[HV.out];exact hjl
     obtain⟨b,off,rfl,hbl,hcell⟩:=HVX.out (by omega);have c0:(w.alloc (.cells #[.bool lf,.slice kA k kc,.slice (some ⟨b,off,none⟩) V vc,.slice cA C cc] 166)).cell? ⟨b,off+j,none⟩=_:=((Ext.alloc w _).cell (p:=⟨b,off+j,none⟩) hbl).trans (hcell j hjk);have hxs:=HVS.out j hjk;have HST:=hD (HV1.out j hjk);obtain⟨x,hx⟩:∃x,n.vals[j]=x:=⟨_,rfl⟩;rw[hx]at c0 hxs HST;clear hx hcell;go_wp2_with fail
     go_round
     case rel=>exact⟨j+1,r+(1+x.size),by omega,by go_num,by rw[HST.out,HR.out];omega,by go_num⟩
     case measure=>simp[intOf];omega
    ·obtain rfl:j=V:=by omega
     have q2:decide ((j:Int)<j)=false:=aM;go_wp2_with fail;go_ret;exact⟨Y3r (by rw[HSN.out,HR.out,HQ1.out,<-HVE.out,HV.out,HC.out]),by exact Xt⟩
theorem Y7t{n:NodeD}{F:Nat->Prop}{kv vv cv:Value}(w:World)(h:NodeAs w F n kv vv cv)(hf:Fair n):
  cQ 186 #[.agg #[.bool n.leaf,kv,vv,cv]] w fun e w'=>e= .returned (.int .i64 (Z0n n))/\Ext w w':=X2a w h.rd hf
def BW(w wr:World)(cs:List Value)(l:List UInt8):Prop:=
 ∃F:Nat->Prop,BldAt wr (w.heap.size+1) F l/\(∀i,F i->w.heap.size+1<=i)/\Ext w wr/\Row1 wr w.heap.size 166 cs
theorem BW.step{w wr w':World}{cs:List Value}{l':List UInt8}{F F':Nat->Prop}(hF:∀i,F i->w.heap.size+1<=i)(hx:Ext w wr)(hr:Row1 wr w.heap.size 166 cs)(hb:BldAt w' (w.heap.size+1) F' l')(hk:Keeps F F' wr w'):BW w w' cs l':=by
 refine⟨F',hb,fun i q=> ?_,?_,hk.only.row hr (fun q=>by have:=hF _ q;omega)⟩
 ·rcases hk.new i q with q | q
  ·exact hF i q
  ·have:=hr.lt;omega
 ·refine Only.toExt (F:=fun i=>w.heap.size<=i) ?_ (fun i q=>q);exact(Only.of hx).trans' (hk.only.mono (fun i q=> .inl (by have:=hF i q;omega)))
theorem V9w{w W:World}{cs:List Value}{l:List UInt8}(m:Nat)(hm:m<256)(h:BW w W cs l)(hl:l.length<=1000000):
  cQ 193 #[.pointer (some ⟨w.heap.size+1,0,none⟩),.int .u8 (m:Int)] W fun e w'=>e= .returned .nilIface/\BW w w' cs (l++ [UInt8.ofNat m]):=by
 obtain⟨F,h1,h2,h3,h4⟩:=h;have hc:=X3g (UInt8.ofNat m) h1 (by omega);rw[UInt8.toNat_ofNat_of_lt' hm]at hc;refine hc.mono ?_;rintro e w' ⟨rfl,F',q1,q2⟩;exact⟨rfl,BW.step h2 h3 h4 q1 q2⟩
theorem X5x{w W:World}{cs:List Value}{l:List UInt8}(s:ByteArray)(hs:s.size<=1000)(h:BW w W cs l)(hl:l.length<=1000000):
  cQ 47 #[.pointer (some ⟨w.heap.size+1,0,none⟩),.string s] W fun e w'=>e= .returned (.tuple #[.int .i64 s.size,.nilIface])/\BW w w' cs (l++s.data.toList):=by
 obtain⟨F,h1,h2,h3,h4⟩:=h;refine(Z6n s h1 (by omega)).mono ?_;rintro e w' ⟨rfl,F',q1,q2⟩;exact⟨rfl,BW.step h2 h3 h4 q1 q2⟩
theorem V9v{w W:World}{cs:List Value}{l:List UInt8}(h:BW w W cs l)(h0:l≠ []):
  cQ 49 #[.pointer (some ⟨w.heap.size+1,0,none⟩)] W fun e w'=>e= .returned (.string (bts l))/\Ext w w':=by
 obtain⟨F,h1,h2,h3,h4⟩:=h;refine(Z9k h1 h0).mono ?_;rintro e w' ⟨rfl,q2⟩;refine⟨rfl,Only.toExt (F:=fun i=>w.heap.size<=i) ?_ (fun i q=>q)⟩;exact(Only.of h3).trans' (q2.mono (fun i q=> .inl (by have:=h2 i q;omega)))
def preL(n:NodeD)(i:Nat):List UInt8:=(if n.leaf=true then 1 else 2)::UInt8.ofNat n.keys.length::((List.range' 0 i).flatMap (entL n))
theorem Y3x(n:NodeD)(i:Nat):preL n (i+1)=preL n i++entL n i:=by unfold preL;rw[List.range'_1_concat,aH];simp
theorem X4r(n:NodeD):preL n n.keys.length++Z5x n 0=Z2g n:=by unfold preL Z2g Z2n;rw[Nat.sub_zero];rfl
def preK(n:NodeD)(j:Nat):List UInt8:=preL n n.keys.length++(n.kids.take j).flatMap kidL
theorem V1a(n:NodeD){j:Nat}(h:j<n.kids.length):preK n (j+1)=preK n j++kidL n.kids[j]:=by unfold preK;rw[Y6c _ _ h,aH,aG];simp
theorem V6m(n:NodeD):preK n n.kids.length=Z2g n:=by unfold preK;rw[List.take_length,<-X4r];rfl
theorem Y2t(n:NodeD)(hn:NodeOk n):∀i,i<=n.keys.length->(preL n i).length<=2+600*i
 | 0,_=>by simp[preL]
 | i+1,h=>by
   have ih:=Y2t n hn i (by omega);rw[Y3x,aA];have h1:(entL n i).length<=600:=by
    unfold entL;rw[aA,Z8k,aB (by omega:i<n.keys.length)];have h2:=hn.keys _ (List.getElem_mem (show i<n.keys.length by omega));simp only[Option.getD_some];split
    ·rw[Z8k];have h3:(n.vals[i]?.getD ByteArray.empty).size<=255:=by
      cases hv:n.vals[i]? with
      | none=>simp
      | some v=>exact hn.vals v (List.mem_of_getElem? hv)
     omega
    ·simp;omega
   omega
theorem V6l(n:NodeD)(hn:NodeOk n)(j:Nat):(preK n j).length<=200000+2*n.kids.length:=by
 have h:∀l:List Int,(l.flatMap kidL).length=2*l.length:=fun l=>by
  induction l with
  | nil=>rfl
  | cons c r ih=>rw[aI,aA,ih,List.length_cons];show 2+_=_;omega
 unfold preK;rw[aA,h,aD];have h1:=Y2t n hn n.keys.length (aF _);have:=hn.many;omega
theorem X6f{n:NodeD}{kv vv cv:Value}(w:World)(h:NodeRd w n kv vv cv)(hn:NodeOk n)(hl:n.leaf=true):
  cQ 151 #[.agg #[.bool n.leaf,kv,vv,cv]] w fun e w'=>e= .returned (.string (bts (Z2g n)))/\Ext w w':=by
 obtain⟨hvl,hkids⟩:=hn.leafs hl;obtain⟨kA,kc,rfl,_,_,hkx⟩:=Z3y h.keys;obtain⟨vA,vc,rfl,_,_,hvx⟩:=Z3y h.vals;obtain⟨cA,cc,rfl,_,_,_⟩:=Z9u h.kids;have HKX:=hD hkx;have HVX:=hD hvx;obtain⟨K,hK⟩:∃K,n.keys.length=K:=⟨_,rfl⟩;have HK:=hD hK;have HV:Hid (n.vals.length=K):=by unfold Hid;omega
 have HE:Hid (preL n K=Z2g n):=by unfold Hid;rw[<-hK];have:=X4r n;rwa [show Z5x n 0= []by unfold Z5x;rw[hkids];rfl,List.append_nil]at this
 have hK255:K<=255:=by rw[<-hK];exact hn.many
 have HPL:Hid (∀i,i<=K->(preL n i).length<=200000):=fun i hi=>by have:=Y2t n hn i (by omega);omega
 rw[hK,show n.vals.length=K from HV.out,show n.kids.length=0 by rw[hkids];rfl,hl];have HN:=hD hn;have HL:=hD hl;have HP0:Hid (preL n 0= [1,UInt8.ofNat K]):=by unfold Hid preL;rw[if_pos hl,hK];rfl
 have cB:Hid (∀(m:Nat) (l:List UInt8) W,m<256->BW w W [.bool true,.slice kA K kc,.slice vA K vc,.slice cA 0 cc] l->l.length<=1000000->cQ 193 #[.pointer (some ⟨w.heap.size+1,0,none⟩),.int .u8 (m:Int)] W fun e w'=>e= .returned .nilIface/\BW w w' [.bool true,.slice kA K kc,.slice vA K vc,.slice cA 0 cc] (l++ [UInt8.ofNat m])):=fun m l W hm hb hl=>V9w m hm hb hl;have cS:Hid (∀(s:ByteArray) (l:List UInt8) W,s.size<=1000->BW w W [.bool true,.slice kA K kc,.slice vA K vc,.slice cA 0 cc] l->l.length<=1000000->cQ 47 #[.pointer (some ⟨w.heap.size+1,0,none⟩),.string s] W fun e w'=>e= .returned (.tuple #[.int .i64 s.size,.nilIface])/\BW w w' [.bool true,.slice kA K kc,.slice vA K vc,.slice cA 0 cc] (l++s.data.toList)):=fun s l W hs hb hl=>X5x s hs hb hl;have cT:Hid (∀(l:List UInt8) W,BW w W [.bool true,.slice kA K kc,.slice vA K vc,.slice cA 0 cc] l->l≠ []->cQ 49 #[.pointer (some ⟨w.heap.size+1,0,none⟩)] W fun e w'=>e= .returned (.string (bts l))/\Ext w w'):=fun l W hb h0=>V9v hb h0;have HB0:Hid (BW w ((w.alloc (.cells #[.bool true,.slice kA K kc,.slice vA K vc,.slice cA 0 cc] 166)).alloc (.cells #[.pointer none,.slice none 0 0] 108)) [.bool true,.slice kA K kc,.slice vA K vc,.slice cA 0 cc] []):=by refine⟨fun i=>i=w.heap.size+1,?_,fun i q=>by omega,by exact Xt,(Row1.made w _ _).alloc _⟩;have:=BldAt.made (w.alloc (.cells #[.bool true,.slice kA K kc,.slice vA K vc,.slice cA 0 cc] 166));rwa [World.size_alloc]at this
 have HCE:Hid (∀W l,BW w W [.bool true,.slice kA K kc,.slice vA K vc,.slice cA 0 cc] l->Hid (Ext w W)/\W.cell? ⟨w.heap.size,0,none⟩=some (.bool true)/\W.cell? ⟨w.heap.size,1,none⟩=some (.slice kA K kc)/\W.cell? ⟨w.heap.size,2,none⟩=some (.slice vA K vc)/\W.cell? ⟨w.heap.size,3,none⟩=some (.slice cA 0 cc)):=fun W l ⟨F,_,_,hx,hr⟩=>⟨hx,hr.cell 0,hr.cell 1,hr.cell 2,hr.cell 3⟩;have u1:IntKind.u8.wrap (K:Int)=K:=by rw[IntKind.wrap_u8];omega
 have q31:(1:Nat)<256:=by omega
 have cB1:cQ 193 #[.pointer (some ⟨w.heap.size+1,0,none⟩),.int .u8 1] _ fun e w'=>e= .returned .nilIface/\BW w w' [.bool true,.slice kA K kc,.slice vA K vc,.slice cA 0 cc] [1]:=cB.out 1 [] _ q31 HB0.out (by simp);clear h hkx hvx hn hl hvl hkids hK;go_enter Tryz.func151,Tryz.ntmps151;go_wp2_with (first
  | (go_at_call 193;(with_reducible refine cB1.mono ?_);clear cB1;rintro e w1 ⟨rfl,hb1⟩;obtain⟨HX1,d0,d1,d2,d3⟩:=HCE.out _ _ hb1;have cB2:=cB.out K _ _ (by omega) hb1 (by simp);clear hb1)
  | (go_at_call 193;(with_reducible refine cB2.mono ?_);clear cB2;rintro e w2 ⟨rfl,hb2⟩;obtain⟨HX2,e0,e1,e2,e3⟩:=HCE.out _ _ hb2;have HB2:=hD hb2;clear hb2))
 have HB2:Hid (BW w w2 [.bool true,.slice kA K kc,.slice vA K vc,.slice cA 0 cc] (preL n 0)):=by rw[HP0.out];exact HB2.out
 clear d0 d1 d2 d3 e0 e1 e2 e3
 go_loopw [21] (fun i wr=>∃k:Nat,k<=K/\i= .int .i64 k/\BW w wr [.bool true,.slice kA K kc,.slice vA K vc,.slice cA 0 cc] (preL n k)) (fun i _=>K-(intOf i).toNat)
 case atStart=>exact⟨0,by omega,rfl,HB2.out⟩
 case round=>
  obtain⟨k,hk,rfl,hbw⟩:=hrel;have HBW:=hD hbw;obtain⟨HXW,r0,r1,r2,r3⟩:=HCE.out _ _ hbw;clear hbw;by_cases hkl:k<K
  ·have q1:decide ((k:Int)<K)=true:=aN;have q1':decide (k<K)=true:=decide_eq_true hkl;have hkk:k<n.keys.length:=by rw[HK.out];exact hkl
   have hkv:k<n.vals.length:=by rw[HV.out];exact hkl
   obtain⟨kb,ko,rfl,hkb,hkc⟩:=HKX.out (by omega);obtain⟨vb,vo,rfl,hvb,hvc⟩:=HVX.out (by omega);have HCK:=hD (hkc k hkk);have HCV:=hD (hvc k hkv);have hk1:=HN.out.keys _ (List.getElem_mem hkk);have hv1:=HN.out.vals _ (List.getElem_mem hkv);have HST:Hid (preL n (k+1)=preL n k++ [UInt8.ofNat n.keys[k].size]++n.keys[k].data.toList++ [UInt8.ofNat n.vals[k].size]++n.vals[k].data.toList):=by unfold Hid;rw[Y3x];unfold entL;rw[if_pos HL.out,aB hkk,aB hkv];simp[lenL]
   obtain⟨x,hx⟩:∃x,n.keys[k]=x:=⟨_,rfl⟩;obtain⟨y,hy⟩:∃y,n.vals[k]=y:=⟨_,rfl⟩;rw[hx]at HCK hk1 HST;rw[hy]at HCV hv1 HST;have hpl:=HPL.out k hk;have c0:wr.cell? ⟨kb,ko+k,none⟩=some (.string x):=(HXW.out.cell (p:=⟨kb,ko+k,none⟩) hkb).trans HCK.out;have x1:IntKind.u8.wrap (x.size:Int)=x.size:=by rw[IntKind.wrap_u8];omega
   have y1:IntKind.u8.wrap (y.size:Int)=y.size:=by rw[IntKind.wrap_u8];omega
   have hxl:x.data.toList.length=x.size:=by rw[Array.length_toList];rfl
   have cA1:=cB.out x.size _ _ (by omega) HBW.out (by omega);have HXL:=hD hxl;clear hx hy hkc hvc hxl;go_wp2_with (first
    | (go_at_call 193;(with_reducible refine cA1.mono ?_);clear cA1;rintro e w3 ⟨rfl,hb3⟩;obtain⟨HX3,s0,s1,s2,s3⟩:=HCE.out _ _ hb3;have cA2:=cS.out x _ _ (by omega) hb3 (by rw[aA];simp;omega);clear hb3)
    | (go_at_call 47;(with_reducible refine cA2.mono ?_);clear cA2;rintro e w4 ⟨rfl,hb4⟩;obtain⟨HX4,t0,t1,t2,t3⟩:=HCE.out _ _ hb4;have g0:w4.cell? ⟨vb,vo+k,none⟩=some (.string y):=(HX4.out.cell (p:=⟨vb,vo+k,none⟩) hvb).trans HCV.out;have cA3:=cB.out y.size _ _ (by omega) hb4 (by rw[aA,aA,HXL.out];simp;omega);clear hb4)
    | (go_at_call 193;(with_reducible refine cA3.mono ?_);clear cA3;rintro e w5 ⟨rfl,hb5⟩;obtain⟨HX5,v0,v1,v2,v3⟩:=HCE.out _ _ hb5;have i0:w5.cell? ⟨vb,vo+k,none⟩=some (.string y):=(HX5.out.cell (p:=⟨vb,vo+k,none⟩) hvb).trans HCV.out;have cA4:=cS.out y _ _ (by omega) hb5 (by rw[aA,aA,aA,HXL.out];simp;omega);clear hb5)
    | (go_at_call 47;(with_reducible refine cA4.mono ?_);clear cA4;rintro e w6 ⟨rfl,hb6⟩;have HB6:=hD hb6;clear hb6))
   go_roundw
   case rel=>exact⟨k+1,by omega,by go_num,by rw[HST.out];exact HB6.out⟩
   case measure=>simp[intOf];omega
  ·obtain rfl:k=K:=by omega
   have q1:decide ((k:Int)<k)=false:=aM;have hne:preL n k≠ []:=by unfold preL;simp
   have cTT:=cT.out _ _ HBW.out hne;rw[HE.out]at cTT;have HTT:=hD cTT;clear cTT hne;go_wp2_with fail
   go_loop [52] (fun i=>i= .int .i64 0) (fun _=>0)
   case atStart=>rfl
   case round=>
    subst hrel;go_wp2_with (go_at_call 49;(with_reducible refine HTT.out.mono ?_);rintro e w7 ⟨rfl,hb7⟩);go_ret;exact⟨rfl,hb7⟩
theorem X1o{n:NodeD}{kv vv cv:Value}(w:World)(h:NodeRd w n kv vv cv)(hn:NodeOk n)(hl:n.leaf=false):
  cQ 151 #[.agg #[.bool n.leaf,kv,vv,cv]] w fun e w'=>e= .returned (.string (bts (Z2g n)))/\Ext w w':=by
 obtain⟨hvl,hkids⟩:=hn.inner hl;obtain⟨kA,kc,rfl,_,_,hkx⟩:=Z3y h.keys;obtain⟨vA,vc,rfl,_,_,hvx⟩:=Z3y h.vals;obtain⟨cA,cc,rfl,_,_,hcx⟩:=Z9u h.kids;have HCX:=hD hcx;have HKX:=hD hkx;have HVX:=hD hvx;obtain⟨K,hK⟩:∃K,n.keys.length=K:=⟨_,rfl⟩;have HK:=hD hK;have HC:Hid (n.kids.length=K+1):=by unfold Hid;omega
 have HE:Hid (preK n (K+1)=Z2g n):=by unfold Hid;rw[<-HC.out];exact V6m n
 have hK255:K<=255:=by rw[<-hK];exact hn.many
 have HPL:Hid (∀i,i<=K->(preL n i).length<=200000):=fun i hi=>by have:=Y2t n hn i (by omega);omega
 have HPK:Hid (∀j,(preK n j).length<=210000):=fun j=>by have:=V6l n hn j;rw[HC.out]at this;omega
 have HPE:Hid (preK n 0=preL n K):=by unfold Hid preK;rw[hK];simp
 rw[hK,show n.vals.length=0 by rw[hvl];rfl,HC.out,hl];have HN:=hD hn;have HL:=hD hl;have HP0:Hid (preL n 0= [2,UInt8.ofNat K]):=by unfold Hid preL;rw[if_neg (by rw[hl];simp),hK];rfl
 have cB:Hid (∀(m:Nat) (l:List UInt8) W,m<256->BW w W [.bool false,.slice kA K kc,.slice vA 0 vc,.slice cA (K+1) cc] l->l.length<=1000000->cQ 193 #[.pointer (some ⟨w.heap.size+1,0,none⟩),.int .u8 (m:Int)] W fun e w'=>e= .returned .nilIface/\BW w w' [.bool false,.slice kA K kc,.slice vA 0 vc,.slice cA (K+1) cc] (l++ [UInt8.ofNat m])):=fun m l W hm hb hl=>V9w m hm hb hl;have cS:Hid (∀(s:ByteArray) (l:List UInt8) W,s.size<=1000->BW w W [.bool false,.slice kA K kc,.slice vA 0 vc,.slice cA (K+1) cc] l->l.length<=1000000->cQ 47 #[.pointer (some ⟨w.heap.size+1,0,none⟩),.string s] W fun e w'=>e= .returned (.tuple #[.int .i64 s.size,.nilIface])/\BW w w' [.bool false,.slice kA K kc,.slice vA 0 vc,.slice cA (K+1) cc] (l++s.data.toList)):=fun s l W hs hb hl=>X5x s hs hb hl;have cT:Hid (∀(l:List UInt8) W,BW w W [.bool false,.slice kA K kc,.slice vA 0 vc,.slice cA (K+1) cc] l->l≠ []->cQ 49 #[.pointer (some ⟨w.heap.size+1,0,none⟩)] W fun e w'=>e= .returned (.string (bts l))/\Ext w w'):=fun l W hb h0=>V9v hb h0;have HB0:Hid (BW w ((w.alloc (.cells #[.bool false,.slice kA K kc,.slice vA 0 vc,.slice cA (K+1) cc] 166)).alloc (.cells #[.pointer none,.slice none 0 0] 108)) [.bool false,.slice kA K kc,.slice vA 0 vc,.slice cA (K+1) cc] []):=by refine⟨fun i=>i=w.heap.size+1,?_,fun i q=>by omega,by exact Xt,(Row1.made w _ _).alloc _⟩;have:=BldAt.made (w.alloc (.cells #[.bool false,.slice kA K kc,.slice vA 0 vc,.slice cA (K+1) cc] 166));rwa [World.size_alloc]at this
 have HCE:Hid (∀W l,BW w W [.bool false,.slice kA K kc,.slice vA 0 vc,.slice cA (K+1) cc] l->Hid (Ext w W)/\W.cell? ⟨w.heap.size,0,none⟩=some (.bool false)/\W.cell? ⟨w.heap.size,1,none⟩=some (.slice kA K kc)/\W.cell? ⟨w.heap.size,2,none⟩=some (.slice vA 0 vc)/\W.cell? ⟨w.heap.size,3,none⟩=some (.slice cA (K+1) cc)):=fun W l ⟨F,_,_,hx,hr⟩=>⟨hx,hr.cell 0,hr.cell 1,hr.cell 2,hr.cell 3⟩;have u1:IntKind.u8.wrap (K:Int)=K:=by rw[IntKind.wrap_u8];omega
 have q31:(2:Nat)<256:=by omega
 have cB1:cQ 193 #[.pointer (some ⟨w.heap.size+1,0,none⟩),.int .u8 2] _ fun e w'=>e= .returned .nilIface/\BW w w' [.bool false,.slice kA K kc,.slice vA 0 vc,.slice cA (K+1) cc] [2]:=cB.out 2 [] _ q31 HB0.out (by simp);clear h hkx hvx hcx hn hl hvl hkids hK;go_enter Tryz.func151,Tryz.ntmps151;go_wp2_with (first
  | (go_at_call 193;(with_reducible refine cB1.mono ?_);clear cB1;rintro e w1 ⟨rfl,hb1⟩;obtain⟨HX1,d0,d1,d2,d3⟩:=HCE.out _ _ hb1;have cB2:=cB.out K _ _ (by omega) hb1 (by simp);clear hb1)
  | (go_at_call 193;(with_reducible refine cB2.mono ?_);clear cB2;rintro e w2 ⟨rfl,hb2⟩;obtain⟨HX2,e0,e1,e2,e3⟩:=HCE.out _ _ hb2;have HB2:=hD hb2;clear hb2))
 have HB2:Hid (BW w w2 [.bool false,.slice kA K kc,.slice vA 0 vc,.slice cA (K+1) cc] (preL n 0)):=by rw[HP0.out];exact HB2.out
 clear d0 d1 d2 d3 e0 e1 e2 e3
 go_loopw [21] (fun i wr=>∃k:Nat,k<=K/\i= .int .i64 k/\BW w wr [.bool false,.slice kA K kc,.slice vA 0 vc,.slice cA (K+1) cc] (preL n k)) (fun i _=>K-(intOf i).toNat)
 case atStart=>exact⟨0,by omega,rfl,HB2.out⟩
 case round=>
  obtain⟨k,hk,rfl,hbw⟩:=hrel;have HBW:=hD hbw;obtain⟨HXW,r0,r1,r2,r3⟩:=HCE.out _ _ hbw;clear hbw;by_cases hkl:k<K
  ·have q1:decide ((k:Int)<K)=true:=aN;have q1':decide (k<K)=true:=decide_eq_true hkl;have hkk:k<n.keys.length:=by rw[HK.out];exact hkl
   obtain⟨kb,ko,rfl,hkb,hkc⟩:=HKX.out (by omega);have HCK:=hD (hkc k hkk);have hk1:=HN.out.keys _ (List.getElem_mem hkk);have HST:Hid (preL n (k+1)=preL n k++ [UInt8.ofNat n.keys[k].size]++n.keys[k].data.toList):=by unfold Hid;rw[Y3x];unfold entL;rw[if_neg (by rw[HL.out];simp),aB hkk];simp[lenL]
   obtain⟨x,hx⟩:∃x,n.keys[k]=x:=⟨_,rfl⟩;rw[hx]at HCK hk1 HST;have hpl:=HPL.out k hk;have c0:wr.cell? ⟨kb,ko+k,none⟩=some (.string x):=(HXW.out.cell (p:=⟨kb,ko+k,none⟩) hkb).trans HCK.out;have x1:IntKind.u8.wrap (x.size:Int)=x.size:=by rw[IntKind.wrap_u8];omega
   have cA1:=cB.out x.size _ _ (by omega) HBW.out (by omega);clear hx hkc;go_wp2_with (first
    | (go_at_call 193;(with_reducible refine cA1.mono ?_);clear cA1;rintro e w3 ⟨rfl,hb3⟩;obtain⟨HX3,s0,s1,s2,s3⟩:=HCE.out _ _ hb3;have cA2:=cS.out x _ _ (by omega) hb3 (by rw[aA];simp;omega);clear hb3)
    | (go_at_call 47;(with_reducible refine cA2.mono ?_);clear cA2;rintro e w4 ⟨rfl,hb4⟩;obtain⟨HX4,t0,t1,t2,t3⟩:=HCE.out _ _ hb4;have HB6:=hD hb4;clear hb4))
   go_roundw
   case rel=>exact⟨k+1,by omega,by go_num,by rw[HST.out];exact HB6.out⟩
   case measure=>simp[intOf];omega
  ·obtain rfl:k=K:=by omega
   have q1:decide ((k:Int)<k)=false:=aM;have HB7:=HBW.out;rw[<-HPE.out]at HB7;have HB7:=hD HB7;go_wp2_with fail;clear r0 r1 r2 r3
   go_loopw [52] (fun i wr=>∃j:Nat,j<=k+1/\i= .int .i64 j/\BW w wr [.bool false,.slice kA k kc,.slice vA 0 vc,.slice cA (k+1) cc] (preK n j)) (fun i _=>k+1-(intOf i).toNat)
   case atStart=>exact⟨0,by omega,rfl,HB7.out⟩
   case round=>
    obtain⟨j,hj,rfl,hbw⟩:=hrel;have HBK:=hD hbw;obtain⟨HXK,r0,r1,r2,r3⟩:=HCE.out _ _ hbw;clear hbw;by_cases hjl:j<k+1
    ·have q2:decide ((j:Int)<k+1)=true:=aN;have q2':decide (j<k+1)=true:=decide_eq_true hjl;have hjk:j<n.kids.length:=by rw[HC.out];exact hjl
     obtain⟨cb,co,rfl,hcb,hcc⟩:=HCX.out (by rw[HC.out];omega);have hc0:=HN.out.kids _ (List.getElem_mem hjk);have c0:=(HXK.out.cell (p:=⟨cb,co+j,none⟩) hcb).trans (hcc j hjk);have HST:Hid (preK n (j+1)=preK n j++ [UInt8.ofNat (n.kids[j].toNat%256)]++ [UInt8.ofNat (n.kids[j].toNat/256%256)]):=by unfold Hid;rw[V1a n hjk];simp[kidL]
     obtain⟨c,hc⟩:∃c:Nat,n.kids[j]=c:=⟨n.kids[j].toNat,by omega⟩;rw[hc]at c0 hc0 HST;rw[Int.toNat_natCast]at HST;have hpl:=HPK.out j;obtain⟨b0,hb0⟩:∃b,c%256=b:=⟨_,rfl⟩;obtain⟨b1,hb1⟩:∃b,c/256%256=b:=⟨_,rfl⟩;rw[hb0,hb1]at HST;have hb0l:b0<256:=by omega
     have hb1l:b1<256:=by omega
     have x1:IntKind.u8.wrap (c:Int)=(b0:Int):=by rw[IntKind.wrap_u8];omega
     have x2:IntKind.u8.wrap ((c:Int)/256)=(b1:Int):=by rw[IntKind.wrap_u8];omega
     have cA1:=cB.out b0 _ _ hb0l HBK.out (by omega);clear hb0 hb1;clear hc hcc;go_wp2_with (first
      | (go_at_call 193;(with_reducible refine cA1.mono ?_);clear cA1;rintro e w8 ⟨rfl,hb8⟩;obtain⟨HX8,s0,s1,s2,s3⟩:=HCE.out _ _ hb8;have cA2:=cB.out b1 _ _ hb1l hb8 (by rw[aA];simp;omega);clear hb8)
      | (go_at_call 193;(with_reducible refine cA2.mono ?_);clear cA2;rintro e w9 ⟨rfl,hb9⟩;have HB9:=hD hb9;clear hb9))
     go_roundw
     case rel=>exact⟨j+1,by omega,by go_num,by rw[HST.out];exact HB9.out⟩
     case measure=>simp[intOf];omega
    ·obtain rfl:j=k+1:=by omega
     have q2:decide (((k+1:Nat):Int)<k+1)=false:=aM;have q2':decide (k+1<k+1)=false:=aM;have hne:preK n (k+1)≠ []:=by unfold preK preL;simp
     have cTT:=cT.out _ _ HBK.out hne;rw[HE.out]at cTT;have HTT:=hD cTT;clear cTT hne;go_wp2_with (go_at_call 49;(with_reducible refine HTT.out.mono ?_);rintro e w7 ⟨rfl,hb7⟩);go_ret;exact⟨rfl,hb7⟩
structure PageN (S:StoreD) (a:Nat) (n:NodeD):Prop where
 given:Z0s S a
 ok:NodeOk n
 fits:(Z2g n).length<=256
 view:Z1a S a=padB (bts (Z2g n))
theorem V3y(n:NodeD)(hn:NodeOk n):(Z2n n 0).length=Z0o n.keys+Z0o n.vals:=by
 have h:∀i,i<=n.keys.length->((List.range' 0 i).flatMap (entL n)).length=Z0o (n.keys.take i)+Z0o (n.vals.take i):=fun i=>by
  induction i with
  | zero=>intro _;simp[Z0o]
  | succ i ih=>
    intro hi;rw[List.range'_1_concat,aH,aA,ih (by omega),Z8l _ _ (by omega)];simp only[aI,List.flatMap_nil,List.append_nil,Nat.zero_add];unfold entL;rw[aA,Z8k,aB (show i<n.keys.length by omega)];cases hl:n.leaf with
    | true=>
      have hv:=(hn.leafs hl).1;rw[Z8l _ _ (by omega),if_pos rfl,Z8k,aB (show i<n.vals.length by omega)];simp only[Option.getD_some];omega
    | false=>
      have hv:=(hn.inner hl).1;rw[hv];simp only[Option.getD_some,List.take_nil];simp;omega
 unfold Z2n;rw[Nat.sub_zero,h _ (aF _),List.take_length];cases hl:n.leaf with
 | true=>rw[<-(hn.leafs hl).1,List.take_length]
 | false=>rw[(hn.inner hl).1];simp
theorem V2p(l:List Int):(l.flatMap kidL).length=2*l.length:=by
 induction l with
 | nil=>rfl
 | cons c r ih=>rw[aI,aA,ih,List.length_cons];show 2+_=_;omega
theorem Z7m(n:NodeD)(hn:NodeOk n):(Z2g n).length=Z0n n:=by unfold Z2g;rw[List.length_cons,List.length_cons,aA,V3y n hn];unfold Z5x Z0n;rw[List.drop_zero,V2p];omega
theorem V1f(l:List UInt8)(h:l.length<=256):padB (bts l)=bts (l++List.replicate (256-l.length) 0):=by rw[<-Y2u (bts l) (256-l.length) (by rw[Z0e]) (by rw[Z0e];exact h),Z7y]
theorem V1d(n:NodeD)(tail:List UInt8)(w:World)(hn:NodeOk n)(hsz:(Z2g n).length+tail.length<=100000):
  cQ 142 #[.string (bts (Z2g n++tail))] w fun e w'=>∃kv vv cv,e= .returned (.tuple #[X2o n kv vv cv,.int .i64 0])/\NodeAs w' (fun i=>w.heap.size<=i) n kv vv cv/\Ext w w':=by
 cases hl:n.leaf with
 | true=>exact X7i n tail w hn hl hsz
 | false=>exact X2j n tail w hn hl hsz
theorem V5b{n:NodeD}{kv vv cv:Value}(w:World)(h:NodeRd w n kv vv cv)(hn:NodeOk n):
  cQ 151 #[.agg #[.bool n.leaf,kv,vv,cv]] w fun e w'=>e= .returned (.string (bts (Z2g n)))/\Ext w w':=by
 cases hl:n.leaf with
 | true=>have:=X6f w h hn hl;rwa [hl]at this
 | false=>have:=X1o w h hn hl;rwa [hl]at this
abbrev Z0b(w:World)(t p i:Nat):Prop:=Row1 w t 159 [tp p,.int .i64 i]
theorem V0u{fn:Func}(h:fn.results= #[.cell 4 166,.tmp 5])(tmps:Array Value)(w:World)(B:Nat)(n:NodeD)(kv vv cv v:Value)(hB:tmps.getD 4 undef= tp B)(hv:tmps.getD 5 undef=v)(hr:Row1 w B 166 [.bool n.leaf,kv,vv,cv]):
  (results fn tmps).run Tryz.prog w= .ok (.tuple #[X2o n kv vv cv,v]) w:=by
 rw[results_cell_tmp h,hB,hv];have c0:w.cell? ⟨B,0,none⟩=some (.bool n.leaf):=hr.cell 0;have c1:w.cell? ⟨B,1,none⟩=some kv:=hr.cell 1;have c2:w.cell? ⟨B,2,none⟩=some vv:=hr.cell 2;have c3:w.cell? ⟨B,3,none⟩=some cv:=hr.cell 3;unfold X2o
 go_simp
theorem X4z{t p i:Nat}{F:Nat->Prop}{S:StoreD}(a:Nat)(n:NodeD)(w:World)(ht:Z0b w t p i)(h:PagerAt w p F S)(hp:PageN S a n):
  cQ 82 #[tp t,.int .i64 a] w fun e w'=>∃kv vv cv B F',e= .returned (.tuple #[.agg #[.bool n.leaf,kv,vv,cv],.int .i64 0])/\NodeAs w' (fun i=>B<=i) n kv vv cv/\PagerAt w' p F' S/\Keeps F F' w w'/\w.heap.size<=B/\∀i,F' i->i<B:=by
 have c0:(w.alloc (.cells #[.bool false,.slice none 0 0,.slice none 0 0,.slice none 0 0] 166)).cell? ⟨t,0,none⟩=some (tp p):=(Row1.alloc ht _).cell 0;have hx0:Ext w (w.alloc (.cells #[.bool false,.slice none 0 0,.slice none 0 0,.slice none 0 0] 166)):=Ext.alloc _ _;have cG:Hid (∀W,Ext w W->cQ 141 #[tp p,.int .i64 a] W fun e w'=>e= .returned (.tuple #[.string (bts (Z2g n++List.replicate (256-(Z2g n).length) 0)),.int .i64 0])/\∃F',PagerAt w' p F' S/\Keeps (fun i=>F i/\i<w.heap.size) F' W w'):=fun W hW=>by have h1:=V6n a W (h.shrink.ext hW) hp.given;rw[hp.view,V1f _ hp.fits]at h1;exact h1
 have cP:Hid (∀W,cQ 142 #[.string (bts (Z2g n++List.replicate (256-(Z2g n).length) 0))] W fun e w'=>∃kv vv cv,e= .returned (.tuple #[.agg #[.bool n.leaf,kv,vv,cv],.int .i64 0])/\NodeAs w' (fun i=>W.heap.size<=i) n kv vv cv/\Ext W w'):=fun W=>V1d n _ W hp.ok (by have:=hp.fits;rw[List.length_replicate];omega);generalize bts (Z2g n++List.replicate (256-(Z2g n).length) 0)=s at cG cP;have HR0:Hid (Row1 (w.alloc (.cells #[.bool false,.slice none 0 0,.slice none 0 0,.slice none 0 0] 166)) w.heap.size 166 [.bool false,.slice none 0 0,.slice none 0 0,.slice none 0 0]):=Row1.made w _ _;have HX0:=hD hx0;clear ht h hp hx0;go_enter Tryz.func82,Tryz.ntmps82;go_wp2_with (first
  | (go_at_call 141;(with_reducible refine(cG.out _ HX0.out).mono ?_);clear cG;rintro e w1 ⟨rfl,F1,hp1,k1⟩;have hzz:=k1.only.size;have HR1:=hD (k1.only.row HR0.out (fun q=>by have:=q.2;omega));have HP1:=hD hp1.shrink;have HK1:=hD (Keeps.shrink (P:=fun i=>i<w1.heap.size) k1);clear hp1 k1)
  | (go_at_call 142;(with_reducible refine(cP.out _).mono ?_);clear cP;rintro e w2 ⟨kv,vv,cv,rfl,hn2,hb2⟩;obtain⟨kA,kc,rfl⟩:=OwnL.form hn2.keys;obtain⟨vA,vc,rfl⟩:=OwnL.form hn2.vals;obtain⟨cA,cc,rfl⟩:=OwnL.form hn2.kids;have HN2:=hD hn2;have HB2:=hD hb2;have hR2:=HR1.out.ext hb2 HR1.out.lt;have z0:w2.cell? ⟨w.heap.size,0,none⟩=some (.bool false):=hR2.cell 0;have z1:w2.cell? ⟨w.heap.size,1,none⟩=some (.slice none 0 0):=hR2.cell 1;have z2:w2.cell? ⟨w.heap.size,2,none⟩=some (.slice none 0 0):=hR2.cell 2;have z3:w2.cell? ⟨w.heap.size,3,none⟩=some (.slice none 0 0):=hR2.cell 3;have f0:w2.frozen? ⟨w.heap.size,0,none⟩=false:=hR2.soft 0;have f1:w2.frozen? ⟨w.heap.size,1,none⟩=false:=hR2.soft 1;have f2:w2.frozen? ⟨w.heap.size,2,none⟩=false:=hR2.soft 2;have f3:w2.frozen? ⟨w.heap.size,3,none⟩=false:=hR2.soft 3;have HR2:=hD hR2;clear hn2 hb2 hR2))
 refine bodyPost_ret (V0u rfl _ _ w.heap.size n (.slice kA n.keys.length kc) (.slice vA n.vals.length vc) (.slice cA n.kids.length cc) _ rfl rfl ((((HR2.out.set 0 _).set 1 _).set 2 _).set 3 _)) rfl ?_;have ho:=X0l (w:=w2) w.heap.size (.bool n.leaf) (.slice kA n.keys.length kc) (.slice vA n.vals.length vc) (.slice cA n.kids.length cc);have hlt:w.heap.size<w1.heap.size:=HR1.out.lt;refine⟨_,_,_,w1.heap.size,fun i=>F1 i/\i<w1.heap.size,rfl,HN2.out.only ho (fun i q q'=>by omega),(HP1.out.ext HB2.out).only ho (fun i q q'=> ?_),?_,by omega,fun i q=>q.2⟩
 ·rcases HK1.out.new i q with r | r
  ·have:=r.2;omega
  ·rw[World.size_alloc]at r;omega
 ·refine⟨?_,fun i q=> ?_⟩
  ·refine(((Only.of HX0.out).trans' (HK1.out.only.mono (fun i q=> .inl q.1))).ext HB2.out).trans (F':=fun i=>i=w.heap.size) ho (fun i q=> .inr (by omega))
  ·rcases HK1.out.new i q with r | r
   ·exact .inl r.1
   ·rw[World.size_alloc]at r;exact .inr (by omega)
def layP(S:StoreD)(a:Nat)(n:NodeD):StoreD:=putP S a (bts (Z2g n))
theorem V2h{t p i:Nat}{F:Nat->Prop}{S:StoreD}(a:Nat)(n:NodeD){kv vv cv:Value}(w:World)(ht:Z0b w t p i)(hnt:¬F t)(h:PagerAt w p F S)(hg:Z0s S a)(hn:NodeOk n)(hs:Z0n n<=256)(hv:NodeRd w n kv vv cv):
  cQ 92 #[tp t,.int .i64 a,.agg #[.bool n.leaf,kv,vv,cv]] w fun e w'=>e= .returned (.int .i64 0)/\∃F',PagerAt w' p F' (layP S a n)/\Keeps F F' w w':=by
 have hsz:(bts (Z2g n)).size<=256:=by rw[Z0e,Z7m n hn];exact hs
 obtain⟨kA,kc,rfl⟩:=hv.keys.form;obtain⟨vA,vc,rfl⟩:=hv.vals.form;obtain⟨cA,cc,rfl⟩:=hv.kids.form;have cW:Hid (∀W,Ext w W->cQ 151 #[.agg #[.bool n.leaf,.slice kA n.keys.length kc,.slice vA n.vals.length vc,.slice cA n.kids.length cc]] W fun e w'=>e= .returned (.string (bts (Z2g n)))/\Ext W w'):=fun W hW=>V5b W (hv.ext hW) hn;have cS:Hid (∀W,Ext w W->cQ 150 #[tp p,.int .i64 a,.string (bts (Z2g n))] W fun e w'=>e= .returned (.int .i64 0)/\∃F',PagerAt w' p F' (layP S a n)/\Keeps (fun i=>F i/\i<w.heap.size) F' W w'):=fun W hW=>V6k a (bts (Z2g n)) W (h.shrink.ext hW) hg hsz;generalize bts (Z2g n)=s at cW cS;obtain⟨lf,hlf⟩:∃lf,n.leaf=lf:=⟨_,rfl⟩;obtain⟨kn,hkn⟩:∃kn,n.keys.length=kn:=⟨_,rfl⟩;obtain⟨vn,hvn⟩:∃vn,n.vals.length=vn:=⟨_,rfl⟩;obtain⟨cn,hcn⟩:∃cn,n.kids.length=cn:=⟨_,rfl⟩;rw[hlf,hkn,hvn,hcn]at cW ⊢;have HKS:Hid (∀W,Only (fun i=>F i/\i<w.heap.size) (w.alloc (.cells #[.bool lf,.slice kA kn kc,.slice vA vn vc,.slice cA cn cc] 166)) W->W.cell? ⟨t,0,none⟩=some (tp p)/\W.cell? ⟨w.heap.size,0,none⟩=some (.bool lf)/\W.cell? ⟨w.heap.size,1,none⟩=some (.slice kA kn kc)/\W.cell? ⟨w.heap.size,2,none⟩=some (.slice vA vn vc)/\W.cell? ⟨w.heap.size,3,none⟩=some (.slice cA cn cc)):=fun W hW=>by have hr:=hW.row (Row1.made w 166 [.bool lf,.slice kA kn kc,.slice vA vn vc,.slice cA cn cc]) (fun q=>by have:=q.2;omega);have h1:Z0b W t p i:=hW.row (Row1.alloc ht _) (fun q=>hnt q.1);exact⟨h1.cell 0,hr.cell 0,hr.cell 1,hr.cell 2,hr.cell 3⟩
 clear ht h hg hn hs hv hsz hlf hkn hvn hcn;go_enter Tryz.func92,Tryz.ntmps92;go_upto_region 1 with fail;refine wp_region_held_drew (S:=fun W=>W.cell? ⟨t,0,none⟩=some (tp p)/\W.cell? ⟨w.heap.size,0,none⟩=some (.bool lf)/\W.cell? ⟨w.heap.size,1,none⟩=some (.slice kA kn kc)/\W.cell? ⟨w.heap.size,2,none⟩=some (.slice vA vn vc)/\W.cell? ⟨w.heap.size,3,none⟩=some (.slice cA cn cc)) (by kernel_rfl) (HKS.out _ (Only.of (by exact Xt))) (fun hHeld=> ?_);refine' tk 0 ?_;refine' tk 1 ?_;refine' tk 2 ?_;refine' tk 3 ?_;refine' tk 4 ?_;refine' tk 5 ?_;refine stp 6 (fun K hK=> ?_);go_simp
 (with_reducible refine(cW.out _ ?_).mono ?_)
 ·exact Xt
 rintro e w1 ⟨rfl,hb1⟩;have HB1:Hid (Ext (w.alloc (.cells #[.bool lf,.slice kA kn kc,.slice vA vn vc,.slice cA cn cc] 166)) w1):=Ext.trans (by exact Xt) hb1;clear hb1
 (try dsimp only)
 (try go_simp)
 refine hK.out _ _ (HKS.out _ (Only.of HB1.out)) (fun hHeld=> ?_);clear hK K;refine pt ?_;refine stp 7 (fun K hK=> ?_);go_simp
 (with_reducible refine(cS.out _ (Ext.trans (Ext.alloc _ _) HB1.out)).mono ?_)
 rintro e w2 ⟨rfl,F2,hp2,hk2⟩;have HP2:=hD hp2;have HB2:Hid (Only (fun i=>F i/\i<w.heap.size) (w.alloc (.cells #[.bool lf,.slice kA kn kc,.slice vA vn vc,.slice cA cn cc] 166)) w2):=(Only.of HB1.out).trans' hk2.only;have HK2:Hid (Keeps F F2 w w2):=Keeps.widen (Keeps.trans (Keeps.of (Ext.trans (Ext.alloc _ _) HB1.out)) hk2) (fun i q=>q.1);clear hp2 hk2
 (try dsimp only)
 (try go_simp)
 refine hK.out _ _ (HKS.out _ HB2.out) (fun hHeld=> ?_);clear hK K;refine pt ?_;refine' tk 8 ?_;refine wpAnyH_done (by kernel_rfl) ?_ _;go_wp2_with fail;go_ret;exact⟨rfl,F2,HP2.out,HK2.out⟩
theorem Y1p{t p i:Nat}{F G:Nat->Prop}{S:StoreD}(a:Nat)(n:NodeD){kv vv cv:Value}(w:World)(ht:Z0b w t p i)(hnt:¬F t)(h:PagerAt w p F S)(hg:Z0s S a)(hn:NodeOk n)(hs:Z0n n<=256)(hv:NodeAs w G n kv vv cv):
  cQ 92 #[tp t,.int .i64 a,.agg #[.bool n.leaf,kv,vv,cv]] w fun e w'=>e= .returned (.int .i64 0)/\∃F',PagerAt w' p F' (layP S a n)/\Keeps F F' w w':=V2h a n w ht hnt h hg hn hs hv.rd
def Z0h(ks:List ByteArray)(k:ByteArray):Nat:=posB ks k+if hasB ks k=true then 1 else 0
theorem Y3a{n:NodeD}{G:Nat->Prop}{kv vv cv:Value}(k:ByteArray)(w:World)(hv:NodeAs w G n kv vv cv)(hr:Z3l n.keys)(hn:n.keys.length<=1000000):
  cQ 137 #[.agg #[.bool n.leaf,kv,vv,cv],.string k] w fun e w'=>e= .returned (.int .i64 (Z0h n.keys k))/\Ext w w':=by
 obtain⟨kA,kc,rfl⟩:=OwnL.form hv.keys;obtain⟨vA,vc,rfl⟩:=OwnL.form hv.vals;obtain⟨cA,cc,rfl⟩:=OwnL.form hv.kids;have cB:Hid (∀W,Ext w W->cQ 138 #[.slice kA n.keys.length kc,.string k] W fun e w'=>e= .returned (.tuple #[.int .i64 (posB n.keys k),.bool (hasB n.keys k)])/\W=w'):=fun W hW=>Z4s k W (hv.keys.ext hW) hr (by omega);have hp:=Y1i n.keys k;have HD:Hid (Z0h n.keys k=posB n.keys k+if hasB n.keys k=true then 1 else 0):=rfl;generalize posB n.keys k=pp at *;generalize hasB n.keys k=hb at *;obtain⟨kn,hkn⟩:∃kn,n.keys.length=kn:=⟨_,rfl⟩;rw[hkn]at cB hp hn ⊢;clear hv hr hkn;cases hb
 ·go_enter Tryz.func137,Tryz.ntmps137;go_wp2_with (go_at_call 138;(with_reducible refine(cB.out _ (Ext.alloc _ _)).mono ?_);clear cB;rintro e w1 ⟨rfl,rfl⟩);go_ret;exact⟨by rw[HD.out];simp,Ext.alloc _ _⟩
 ·go_enter Tryz.func137,Tryz.ntmps137;go_wp2_with (go_at_call 138;(with_reducible refine(cB.out _ (Ext.alloc _ _)).mono ?_);clear cB;rintro e w1 ⟨rfl,rfl⟩);go_ret;exact⟨by rw[HD.out];simp,Ext.alloc _ _⟩
theorem Z4d{t p i:Nat}{F:Nat->Prop}{S:StoreD}(w:World)(ht:Z0b w t p i)(hnt:¬F t)(h:PagerAt w p F S)(hi:i<16):
  cQ 78 #[tp t] w fun e w'=>e= .returned (.tuple #[.int .i64 (Z1w S i),.int .i64 0])/\∃F',PagerAt w' p F' S/\Keeps F F' w w':=by
 have c0:w.cell? ⟨t,0,none⟩=some (tp p):=ht.cell 0;have c1:w.cell? ⟨t,1,none⟩=some (.int .i64 i):=ht.cell 1;have cR:Hid (∀W,Ext w W->cQ 75 #[tp p,.int .i64 i] W fun e w'=>e= .returned (.tuple #[.int .i64 (Z1w S i),.int .i64 0])/\∃F',PagerAt w' p F' S/\Keeps F F' W w'):=fun W hW=>Y7x i W (h.ext hW) hi;have HKS:Hid (∀W,Only F w W->W.cell? ⟨t,0,none⟩=some (tp p)/\W.cell? ⟨t,1,none⟩=some (.int .i64 i)):=fun W hW=>⟨(hW.row ht hnt).cell 0,(hW.row ht hnt).cell 1⟩;clear ht h;go_enter Tryz.func78,Tryz.ntmps78;go_upto_region 3 with fail;refine wp_region_held_drew (S:=fun W=>W.cell? ⟨t,0,none⟩=some (tp p)/\W.cell? ⟨t,1,none⟩=some (.int .i64 i)) (by kernel_rfl) (HKS.out _ (Only.of (by exact Xt))) (fun hHeld=> ?_);refine' tk 0 ?_;refine' tk 1 ?_;refine' tk 2 ?_;refine' tk 3 ?_;refine' tk 4 ?_;refine' tk 5 ?_;refine' tk 6 ?_;refine' tk 7 ?_;refine stp 8 (fun K hK=> ?_);go_simp
 (with_reducible refine(cR.out _ ?_).mono ?_)
 ·exact Xt
 rintro e w1 ⟨rfl,F1,hp1,hk1⟩;have HB:Hid (Only F w w1):=(Only.of (by exact Xt)).trans' hk1.only;have HP1:=hD hp1;have HK1:Hid (Keeps F F1 w w1):=Keeps.trans (Keeps.of (by exact Xt)) hk1;clear hp1 hk1
 (try dsimp only)
 (try go_simp)
 refine hK.out _ _ (HKS.out _ HB.out) (fun hHeld=> ?_);clear hK K;refine pt ?_;refine' tk 9 ?_;refine' tk 10 ?_;refine' tk 11 ?_;refine' tk 12 ?_;refine wpAnyH_done (by kernel_rfl) ?_ _;go_wp2_with fail
 go_ret2
 exact⟨rfl,F1,HP1.out,HK1.out⟩
end Go.Proofs.YtohaldfnmgcofaaGreat
