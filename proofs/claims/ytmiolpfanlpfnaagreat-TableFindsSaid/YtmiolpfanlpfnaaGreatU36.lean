/- Two kids of a node are joined, if both fit on a page (join): the walk. Conditions: pages that bear nodes. -/
import Derived.Test.YtmiolpfanlpfnaaGreatU35
set_option maxRecDepth 100000
set_option maxHeartbeats 4000000
set_option linter.unusedSimpArgs false
set_option linter.unusedVariables false
namespace Go.Proofs.YtmiolpfanlpfnaaGreat
open Go.RowKit
def Y1h(na:NodeD)(s:ByteArray)(nb:NodeD):NodeD:=⟨na.leaf,na.keys++(if na.leaf then []else [s])++nb.keys,na.vals++nb.vals,na.kids++nb.kids⟩
def Z9j(n:NodeD)(j:Nat):NodeD:=⟨n.leaf,n.keys.eraseIdx j,n.vals,n.kids.eraseIdx (j+1)⟩
def U1p(S:StoreD)(at_ ai bi:Nat)(n both:NodeD)(j:Nat)(S':StoreD):Prop:=
 (256<Z0m both∧S'=S)∨(Z0m both≤256∧S'=useP (layP (layP S at_ (Z9j n j)) ai both) bi false)
theorem Z9i{n:NodeD}(h:NodeOk n):n.keys.length≤255∧n.vals.length≤255∧n.kids.length≤256:=by
 have h1:=h.many
 cases hl:n.leaf with
 | true=>obtain⟨h2,h3⟩:=h.leafs hl;exact⟨h1,by omega,by rw[h3];simp⟩
 | false=>obtain⟨h2,h3⟩:=h.inner hl;exact⟨h1,by rw[h2];simp,by omega⟩
theorem NodeAs.eraseK{W w3:World}{G:Nat→Prop}{D:Nat}{n:NodeD}{kv vv cv kv':Value}{K':List ByteArray}(h:NodeAs W G n kv vv cv)(hr:Row1 W D 257 [.bool n.leaf,kv,vv,cv])(hown:OwnL w3 0 9 1 encS kv' K')(hob:kv'.ownBlock=kv.ownBlock)(hx:Only (fun j=>kv.ownBlock=some j) W w3):
  NodeAs (w3.setCell ⟨D,1,none⟩ kv') G ⟨n.leaf,K',n.vals,n.kids⟩ kv' vv cv∧Row1 (w3.setCell ⟨D,1,none⟩ kv') D 257 [.bool n.leaf,kv',vv,cv]∧Only (fun j=>kv.ownBlock=some j∨j=D) W (w3.setCell ⟨D,1,none⟩ kv'):=by
 have ho:=Y4w w3 D 1 kv'
 have hr3:=hx.row hr (h.keys.apartRow hr (by decide))
 have hv3:=h.vals.only hx (fun k q q'=>h.sep k q' q)
 have hc3:=h.kids.only hx (fun k q q'=>h.kids.apart h.keys (by decide) q q')
 exact⟨⟨hown.only ho (fun k q q'=>hown.apartRow hr3 (by decide) (by rw[q,q'])),hv3.only ho (fun k q q'=>hv3.apartRow hr3 (by decide) (by rw[q,q'])),hc3.only ho (fun k q q'=>hc3.apartRow hr3 (by decide) (by rw[q,q'])),fun b q=>h.sep b (hob▸q),fun b q=>h.fk b (hob▸q),h.fv,h.fc⟩,hr3.set 1 kv',(hx.mono (fun i q=> .inl (.inl q))).trans' (ho.mono (fun i q=> .inl (.inr q)))⟩
theorem NodeAs.eraseC{W w3:World}{G:Nat→Prop}{D:Nat}{n:NodeD}{kv vv cv cv':Value}{C':List Int}(h:NodeAs W G n kv vv cv)(hr:Row1 W D 257 [.bool n.leaf,kv,vv,cv])(hown:OwnL w3 0 3 1 encN cv' C')(hob:cv'.ownBlock=cv.ownBlock)(hx:Only (fun j=>cv.ownBlock=some j) W w3):
  NodeAs (w3.setCell ⟨D,3,none⟩ cv') G ⟨n.leaf,n.keys,n.vals,C'⟩ kv vv cv'∧Row1 (w3.setCell ⟨D,3,none⟩ cv') D 257 [.bool n.leaf,kv,vv,cv']∧Only (fun j=>cv.ownBlock=some j∨j=D) W (w3.setCell ⟨D,3,none⟩ cv'):=by
 have ho:=Y4w w3 D 3 cv'
 have hr3:=hx.row hr (h.kids.apartRow hr (by decide))
 have hk3:=h.keys.only hx (fun k q q'=>h.keys.apart h.kids (by decide) q q')
 have hv3:=h.vals.only hx (fun k q q'=>h.vals.apart h.kids (by decide) q q')
 exact⟨⟨hk3.only ho (fun k q q'=>hk3.apartRow hr3 (by decide) (by rw[q,q'])),hv3.only ho (fun k q q'=>hv3.apartRow hr3 (by decide) (by rw[q,q'])),hown.only ho (fun k q q'=>hown.apartRow hr3 (by decide) (by rw[q,q'])),h.sep,h.fk,h.fv,fun b q=>h.fc b (hob▸q)⟩,hr3.set 3 cv',(hx.mono (fun i q=> .inl (.inl q))).trans' (ho.mono (fun i q=> .inl (.inr q)))⟩
theorem V2r{na nb:NodeD}{s:ByteArray}(ha:NodeOk na)(hb:NodeOk nb)(hs:s.size≤255):Fair (Y1h na s nb):=by
 obtain⟨a1,a2,a3⟩:=Z9i ha
 obtain⟨b1,b2,b3⟩:=Z9i hb
 refine⟨fun k hk=> ?_,fun k hk=> ?_,?_,?_,?_⟩
 ·simp only[Y1h,List.mem_append]at hk
  rcases hk with (hk | hk) | hk
  ·have:=ha.keys k hk;omega
  ·have:k=s:=by split at hk<;>simp_all
   subst this;omega
  ·have:=hb.keys k hk;omega
 ·simp only[Y1h,List.mem_append]at hk
  rcases hk with hk | hk
  ·have:=ha.vals k hk;omega
  ·have:=hb.vals k hk;omega
 ·simp only[Y1h,List.length_append]
  have:(if na.leaf=true then []else [s]).length≤1:=by split<;>simp
  omega
 ·simp only[Y1h,List.length_append];omega
 ·simp only[Y1h,List.length_append];omega
theorem BoxG.now{w1 W:World}{G:Nat→Prop}{D:Nat}{n:NodeD}{kv vv cv:Value}(h:BoxG w1 W G D n kv vv cv):BoxG W W G D n kv vv cv:=⟨h.own,h.row,Only.refl,h.bd,fun j q=>h.up j (Nat.le_trans h.only.size q)⟩
def dstJ:Nat→Nat
 | 4=>51 | 9=>56 | 10=>57 | 15=>62 | 16=>63 | 17=>64 | _=>12
def Z9r:Nat→List Nat
 | 10=> [9,4] | 16=> [15,10] | 17=> [4,10,16] | _=> []
def JG(M:Nat)(lf:Bool)(LK LV:List ByteArray)(LC:List Int)(avv bvv acv bcv:Value):Nat→Act→World→Prop
 | 4,a,w=>∃A c,a.tmps[51]? =some (.slice A LK.length c)∧OwnL w M 9 1 encS (.slice A LK.length c) LK
 | 9,a,w=>∃b,a.tmps[56]? =some (.slice (some ⟨b,0,none⟩) 2 2)∧Row1 w b 85 [avv,bvv]
 | 10,a,w=>∃A c,a.tmps[57]? =some (.slice A LV.length c)∧OwnL w M 9 1 encS (.slice A LV.length c) LV∧∀v k,a.tmps[51]? =some v→v.ownBlock=some k→(Value.slice A LV.length c).ownBlock≠some k
 | 15,a,w=>∃b,a.tmps[62]? =some (.slice (some ⟨b,0,none⟩) 2 2)∧Row1 w b 23 [acv,bcv]
 | 16,a,w=>∃A c,a.tmps[63]? =some (.slice A LC.length c)∧OwnL w M 3 1 encN (.slice A LC.length c) LC
 | 17,a,_=>∃v1 v2 v3,a.tmps[51]? =some v1∧a.tmps[57]? =some v2∧a.tmps[63]? =some v3∧a.tmps[64]? =some (.agg #[.bool lf,v1,v2,v3])
 | 18,a,w=>∃b,a.tmps[12]? =some (.pointer (some ⟨b,0,none⟩))∧M≤b∧Row1 w b 257 [.bool false,.slice none 0 0,.slice none 0 0,.slice none 0 0]
 | _,_,_=>False
theorem JG.stable{M:Nat}{lf:Bool}{LK LV:List ByteArray}{LC:List Int}{avv bvv acv bcv:Value}{j:Nat}{a a':Act}{w w':World}(h:JG M lf LK LV LC avv bvv acv bcv j a w)(ha:∀k,k=j∨k∈Z9r j→a'.tmps[dstJ k]? =a.tmps[dstJ k]?)(hx:Ext w w'):JG M lf LK LV LC avv bvv acv bcv j a' w':=by
 unfold JG at h
 split at h
 ·obtain⟨A,c,h1,h2⟩:=h
  exact⟨A,c,(ha 4 (.inl rfl)).trans h1,h2.ext hx⟩
 ·obtain⟨b,h1,h2⟩:=h
  exact⟨b,(ha 9 (.inl rfl)).trans h1,h2.ext hx h2.lt⟩
 ·obtain⟨A,c,h1,h2,h3⟩:=h
  exact⟨A,c,(ha 10 (.inl rfl)).trans h1,h2.ext hx,fun v k q=>h3 v k ((ha 4 (.inr (by simp[Z9r]))).symm.trans q)⟩
 ·obtain⟨b,h1,h2⟩:=h
  exact⟨b,(ha 15 (.inl rfl)).trans h1,h2.ext hx h2.lt⟩
 ·obtain⟨A,c,h1,h2⟩:=h
  exact⟨A,c,(ha 16 (.inl rfl)).trans h1,h2.ext hx⟩
 ·obtain⟨v1,v2,v3,h1,h2,h3,h4⟩:=h
  exact⟨v1,v2,v3,(ha 4 (.inr (by simp[Z9r]))).trans h1,(ha 10 (.inr (by simp[Z9r]))).trans h2,(ha 16 (.inr (by simp[Z9r]))).trans h3,(ha 17 (.inl rfl)).trans h4⟩
 ·obtain⟨b,h1,h2,h3⟩:=h
  exact⟨b,(ha 18 (.inl rfl)).trans h1,h2,h3.ext hx h3.lt⟩
 ·exact h.elim
def Y7f:List Nat:= [4,9,10,15,16,17,18]
theorem V7f:∀i∈Y7f,∀k∈Y7f,dstJ i=dstJ k→i=k:=by decide
theorem X7k:∀j∈Y7f,∀k∈Z9r j,k∈Y7f:=by decide
theorem JG.put{M:Nat}{lf:Bool}{LK LV:List ByteArray}{LC:List Int}{avv bvv acv bcv:Value}{i j:Nat}{a:Act}{w w':World}{d:Nat}{v:Value}(h:JG M lf LK LV LC avv bvv acv bcv j a w)(hi:i∈Y7f)(hd:dstJ i=d)(hj:j∈Y7f)(hne:j≠i)(hnd:i∉Z9r j)(hx:Ext w w'):JG M lf LK LV LC avv bvv acv bcv j (a.put (some d) v) w':=by
 refine h.stable (fun k hk=> ?_) hx
 have hkp:k∈Y7f:=hk.elim (fun e=>e▸hj) (X7k j hj k)
 have hdk:dstJ k≠d:=fun e=>by
  have:=V7f i hi k hkp (hd.trans e.symm)
  subst this
  exact hk.elim (fun e=>hne e.symm) hnd
 show(a.tmps.setIfInBounds d v)[dstJ k]? =_
 rw[Array.getElem?_setIfInBounds_ne (fun e=>hdk e.symm)]
section
variable {M:Nat} {lf:Bool} {LK LV:List ByteArray} {LC:List Int} {avv bvv acv bcv:Value} {a:Act} {w:World}
theorem JG.e4(h:JG M lf LK LV LC avv bvv acv bcv 4 a w):∃A c,a.tmps[51]? =some (.slice A LK.length c)∧OwnL w M 9 1 encS (.slice A LK.length c) LK:=h
theorem JG.e9(h:JG M lf LK LV LC avv bvv acv bcv 9 a w):∃b,a.tmps[56]? =some (.slice (some ⟨b,0,none⟩) 2 2)∧Row1 w b 85 [avv,bvv]:=h
theorem JG.e10(h:JG M lf LK LV LC avv bvv acv bcv 10 a w):∃A c,a.tmps[57]? =some (.slice A LV.length c)∧OwnL w M 9 1 encS (.slice A LV.length c) LV∧∀v k,a.tmps[51]? =some v→v.ownBlock=some k→(Value.slice A LV.length c).ownBlock≠some k:=h
theorem JG.e15(h:JG M lf LK LV LC avv bvv acv bcv 15 a w):∃b,a.tmps[62]? =some (.slice (some ⟨b,0,none⟩) 2 2)∧Row1 w b 23 [acv,bcv]:=h
theorem JG.e16(h:JG M lf LK LV LC avv bvv acv bcv 16 a w):∃A c,a.tmps[63]? =some (.slice A LC.length c)∧OwnL w M 3 1 encN (.slice A LC.length c) LC:=h
theorem JG.e17(h:JG M lf LK LV LC avv bvv acv bcv 17 a w):∃v1 v2 v3,a.tmps[51]? =some v1∧a.tmps[57]? =some v2∧a.tmps[63]? =some v3∧a.tmps[64]? =some (.agg #[.bool lf,v1,v2,v3]):=h
theorem JG.e18(h:JG M lf LK LV LC avv bvv acv bcv 18 a w):∃b,a.tmps[12]? =some (.pointer (some ⟨b,0,none⟩))∧M≤b∧Row1 w b 257 [.bool false,.slice none 0 0,.slice none 0 0,.slice none 0 0]:=h
theorem JG.g4(h:∃A c,a.tmps[51]? =some (.slice A LK.length c)∧OwnL w M 9 1 encS (.slice A LK.length c) LK):JG M lf LK LV LC avv bvv acv bcv 4 a w:=h
theorem JG.g9(h:∃b,a.tmps[56]? =some (.slice (some ⟨b,0,none⟩) 2 2)∧Row1 w b 85 [avv,bvv]):JG M lf LK LV LC avv bvv acv bcv 9 a w:=h
theorem JG.g10(h:∃A c,a.tmps[57]? =some (.slice A LV.length c)∧OwnL w M 9 1 encS (.slice A LV.length c) LV∧∀v k,a.tmps[51]? =some v→v.ownBlock=some k→(Value.slice A LV.length c).ownBlock≠some k):JG M lf LK LV LC avv bvv acv bcv 10 a w:=h
theorem JG.g15(h:∃b,a.tmps[62]? =some (.slice (some ⟨b,0,none⟩) 2 2)∧Row1 w b 23 [acv,bcv]):JG M lf LK LV LC avv bvv acv bcv 15 a w:=h
theorem JG.g16(h:∃A c,a.tmps[63]? =some (.slice A LC.length c)∧OwnL w M 3 1 encN (.slice A LC.length c) LC):JG M lf LK LV LC avv bvv acv bcv 16 a w:=h
theorem JG.g17(h:∃v1 v2 v3,a.tmps[51]? =some v1∧a.tmps[57]? =some v2∧a.tmps[63]? =some v3∧a.tmps[64]? =some (.agg #[.bool lf,v1,v2,v3])):JG M lf LK LV LC avv bvv acv bcv 17 a w:=h
theorem JG.g18(h:∃b,a.tmps[12]? =some (.pointer (some ⟨b,0,none⟩))∧M≤b∧Row1 w b 257 [.bool false,.slice none 0 0,.slice none 0 0,.slice none 0 0]):JG M lf LK LV LC avv bvv acv bcv 18 a w:=h
end
def Z6t(a:Act)(u51 u56 u57 u62 u63 u64 u12:Value):Act:= { tmps:=((((((a.tmps.setIfInBounds 51 u51).setIfInBounds 56 u56).setIfInBounds 57 u57).setIfInBounds 62 u62).setIfInBounds 63 u63).setIfInBounds 64 u64).setIfInBounds 12 u12,defers:=a.defers}
theorem X3p{a:Act}(hs:a.tmps.size=132)(u51 u56 u57 u62 u63 u64 u12:Value):(Z6t a u51 u56 u57 u62 u63 u64 u12).tmps[51]? =some u51∧(Z6t a u51 u56 u57 u62 u63 u64 u12).tmps[56]? =some u56∧(Z6t a u51 u56 u57 u62 u63 u64 u12).tmps[57]? =some u57∧(Z6t a u51 u56 u57 u62 u63 u64 u12).tmps[62]? =some u62∧(Z6t a u51 u56 u57 u62 u63 u64 u12).tmps[63]? =some u63∧(Z6t a u51 u56 u57 u62 u63 u64 u12).tmps[64]? =some u64∧(Z6t a u51 u56 u57 u62 u63 u64 u12).tmps[12]? =some u12:=by
 simp[Z6t,Array.getElem?_setIfInBounds,hs]
def U1q(W2:World)(a0 a:Act)(w:World):Prop:=Ext W2 w∧a0.tmps.size=132∧∃u51 u56 u57 u62 u63 u64 u12,a=Z6t a0 u51 u56 u57 u62 u63 u64 u12
theorem X0b{tr p i:Nat}{F G:Nat→Prop}{S:StoreD}(at_ ai bi j:Nat)(n na nb:NodeD)(s:ByteArray){kv vv cv:Value}(w:World)(ht:Z0b w tr p i)(hnt:¬F tr)(h:PagerAt w p F S)(hn:NodeAs w G n kv vv cv)(hG:∀i,F i→¬G i)(hGt:¬G tr)
 (hleaf:n.leaf=false)(hj:j+1<n.kids.length)(hkl:n.kids.length=n.keys.length+1)(hmany:n.keys.length≤255)(hka:n.kids[j]? =some (ai:Int))(hkb:n.kids[j+1]? =some (bi:Int))(hks:n.keys[j]? =some s)(hpa:PageN S ai na)(hpb:PageN S bi nb)(hl:na.leaf=nb.leaf)
 (hs1:s.size≤255)(hfit:Z0m (Y1h na s nb)≤256→Z0r S at_∧NodeOk (Z9j n j)∧Z0m (Z9j n j)≤256∧NodeOk (Y1h na s nb)∧Z0r (layP S at_ (Z9j n j)) ai∧Z0r (layP (layP S at_ (Z9j n j)) ai (Y1h na s nb)) bi):
  Calls Tryz.prog 224 #[.pointer (some ⟨tr,0,none⟩),.int .i64 at_,.agg #[.bool false,kv,vv,cv],.int .i64 j] w fun e w'=>e= .returned (.int .i64 0)∧∃(S':StoreD) (F':Nat→Prop),U1p S at_ ai bi n (Y1h na s nb) j S'∧PagerAt w' p F' S'∧Only (Un F G) w w'∧∀i,F' i→F i∨w.heap.size≤i:=by
 obtain⟨W0,hW0⟩:∃W0,w.alloc (.cells #[.bool false,kv,vv,cv] 257)=W0:=⟨_,rfl⟩
 have HX0:Hid (Ext w W0):=by unfold Hid;rw[←hW0];exact Ext.alloc _ _
 obtain⟨F0,hF0⟩:∃F0:Nat→Prop,F0=fun i=>F i∧i<w.heap.size:=⟨_,rfl⟩
 obtain⟨G0,hG0⟩:∃G0:Nat→Prop,G0=fun i=>(G i∧i<w.heap.size)∨w.heap.size≤i:=⟨_,rfl⟩
 have hB0:BoxG w W0 G0 w.heap.size n kv vv cv:=by
  rw[←hW0,←hleaf,hG0]
  exact BoxG.made (NodeAs.shrink' hn (fun i q1 q2=> .inl ⟨q1,q2⟩) hn) (fun j q=> .inr q)
 have HT0:Hid (Z0b W0 tr p i):=ht.ext HX0.out ht.lt
 have hP0:PagerAt W0 p F0 S:=by rw[hF0];exact PagerAt.ext (F:=fun i=>F i∧i<w.heap.size) h.shrink HX0.out
 have HN0:Hid (¬F0 tr):=fun q=>by rw[hF0]at q;exact hnt q.1
 have HD0:Hid (∀i,F0 i→¬G0 i):=fun i q r=>by
  rw[hF0]at q;rw[hG0]at r
  rcases r with r | r
  ·exact hG i q.1 r.1
  ·have:=q.2;omega
 have HG0:Hid (∀i,G0 i→Un F G i∨w.heap.size≤i):=fun i q=>by rw[hG0]at q;exact q.imp (fun q=> .inr q.1) id
 have HF0:Hid (∀i,F0 i→F i):=fun i q=>by rw[hF0]at q;exact q.1
 have HGT:Hid (¬G0 tr):=fun q=>by rw[hG0]at q;exact q.elim (fun q=>hGt q.1) (fun q=>by have:=ht.lt;omega)
 clear hF0 hG0
 have HB0:=hD hB0
 have HP0:=hD hP0
 have htl:tr<W0.heap.size:=HT0.out.lt
 obtain⟨g,cc,rfl,hg,hgc⟩:=Z6f hB0.own.kids j (by omega)
 obtain⟨gk,kc,rfl,_,_⟩:=Z4a hB0.own.keys j (by omega)
 obtain⟨vA,vc,rfl⟩:=OwnL.form hB0.own.vals
 have x3:W0.cell? ⟨w.heap.size,3,none⟩=some (.slice (some ⟨g,0,none⟩) n.kids.length cc):=hB0.row.cell 3
 rw[hka]at hgc
 simp only[Option.getD_some]at hgc
 have cA:=Z1k ai na W0 HT0.out hP0 hpa
 obtain⟨lf,hlf⟩:∃lf,na.leaf=lf:=⟨_,rfl⟩
 rw[hlf]at cA
 have HLFA:=hD hlf
 have HPB:=hD hpb
 have HFAIR:=hD (V2r (s:=s) hpa.ok hpb.ok hs1)
 have hpaN:Hid (na.keys.length≤255∧na.vals.length≤255∧na.kids.length≤256):=Z9i hpa.ok
 have hpbN:Hid (nb.keys.length≤255∧nb.vals.length≤255∧nb.kids.length≤256):=Z9i hpb.ok
 have HKB:=hD hkb
 have HKA:=hD hka
 have HKS:=hD hks
 have HFIT:=hD hfit
 have HLF:=hD hleaf
 have HAB:=hD hl
 have hnl:n.kids.length≤256:=by omega
 have q1:decide ((n.kids.length:Int)<2)=false:=decide_eq_false (by omega)
 have q2:(j:Int)<(n.kids.length:Int):=by omega
 have q3:(j:Int)+1<(n.kids.length:Int):=by omega
 have q4:((j:Int)+1).toNat=j+1:=by omega
 have q5:(0:Int)≤(j:Int)+1:=by omega
 have q6:j≤255:=by omega
 have hjk:j<n.keys.length:=by omega
 clear ht hnt h hn hG hGt hB0 hP0 hpa hpb hkb hks hfit hleaf hl hka hkl hlf
 go_enter Tryz.func224,Tryz.ntmps224
 go_upto_region 1 with fail
 clear hW0
 generalize hD6:w.heap.size=D6 at *
 have HD6:=hD hD6
 clear hD6
 go_upto_region 6 with (go_at_call 186;(with_reducible refine cA.mono ?_);clear cA;rintro e w1 ⟨akA,akn,akc,avA,avn,avc,acA,acn,acc,Ba,F1,rfl,hn1,hp1,hk1,hBa,hF1,hBW⟩)
 have hz0:D6≤W0.heap.size:=HD6.out▸HX0.out.size
 have hz1:=hk1.only.size
 generalize hW1:World.alloc w1 _=W1
 have HX1:Hid (Ext w1 W1):=by unfold Hid;rw[←hW1];exact Ext.alloc _ _
 have HRA:Hid (Row1 W1 w1.heap.size 257 [.bool lf,.slice akA akn akc,.slice avA avn avc,.slice acA acn acc]):=by unfold Hid;rw[←hW1];exact Row1.made w1 _ _
 have HNA:=hD (hn1.ext HX1.out)
 have hcall:=HB0.out.call hk1 HD0.out
 obtain⟨G1,hG1⟩:∃G1:Nat→Prop,(fun j=>(G0 j∧j<W0.heap.size)∨w1.heap.size≤j)=G1:=⟨_,rfl⟩
 have HF1:=hD hF1
 have HBW:=hD hBW
 have HD1:Hid (∀i,F1 i→¬G1 i):=fun i q=>by rw[←hG1];exact hcall.2 i q (by have:=hF1 i q;omega)
 have hB1:BoxG w1 W1 G1 D6 n (.slice (some ⟨gk,0,none⟩) n.keys.length kc) (.slice vA n.vals.length vc) (.slice (some ⟨g,0,none⟩) n.kids.length cc):=by rw[←hG1];exact hcall.1.ext HX1.out
 have HG1:Hid (∀i,G1 i→Un F G i∨D6≤i):=fun i q=>by
  rw[←hG1]at q
  rcases q with q | q
  ·exact HG0.out i q.1
  ·exact .inr (by omega)
 have HNF1:Hid (∀i,F1 i→F i∨D6≤i):=fun i q=>(hk1.new i q).imp (HF0.out i) (fun q=>by omega)
 have HO1:Hid (Only (Un F G) w W1):=((Only.of HX0.out).trans hk1.only (fun i q=> .inl (.inl (HF0.out i q)))).ext HX1.out
 have HN1:Hid (¬F1 tr):=hk1.out htl HN0.out
 have HGT1:Hid (¬G1 tr):=fun q=>by
  rw[←hG1]at q
  rcases q with q | q
  ·exact HGT.out q.1
  ·omega
 have HT1:Hid (Z0b W1 tr p i):=(hk1.only.row HT0.out HN0.out).ext HX1.out (Nat.lt_of_lt_of_le htl hz1)
 have hP1:PagerAt W1 p F1 S:=hp1.ext HX1.out
 have HZ1:Hid (w1.heap.size<W1.heap.size):=by unfold Hid;rw[←hW1];simp
 have HB1:=hD hB1
 have x4:W1.cell? ⟨D6,3,none⟩=some (.slice (some ⟨g,0,none⟩) n.kids.length cc):=hB1.row.cell 3
 obtain⟨g',c',hcv,_,hgd⟩:=Z6f hB1.own.kids (j+1) (by omega)
 injection hcv with e1 e2 e3
 injection e1 with e1
 injection e1 with e1
 subst e1
 rw[HKB.out]at hgd
 simp only[Option.getD_some]at hgd
 have cB:=Z1k bi nb W1 HT1.out hP1 HPB.out
 have HK1:=hD hk1
 clear hn1 hp1 hk1 hF1 hBW hcall hG1 hB1 hP1 x3 hgc hW1 e2 e3
 go_upto_region 9 with (go_at_call 186;(with_reducible refine cB.mono ?_);clear cB;rintro e w2 ⟨bkA,bkn,bkc,bvA,bvn,bvc,bcA,bcn,bcc,Bb,F2,rfl,hn2,hp2,hk2,hBb,hF2,hBW2⟩)
 have hz2:=hk2.only.size
 have hz1':=HX1.out.size
 generalize hW2:World.alloc w2 _=W2
 have HX2:Hid (Ext w2 W2):=by unfold Hid;rw[←hW2];exact Ext.alloc _ _
 have HRB:Hid (Row1 W2 w2.heap.size 257 [.bool nb.leaf,.slice bkA bkn bkc,.slice bvA bvn bvc,.slice bcA bcn bcc]):=by unfold Hid;rw[←hW2];exact Row1.made w2 _ _
 have HNB:=hD (hn2.ext HX2.out)
 have HRA2:Hid (Row1 W2 w1.heap.size 257 [.bool lf,.slice akA akn akc,.slice avA avn avc,.slice acA acn acc]):=by
  have:=hk2.only.row HRA.out (fun q=>by have:=HF1.out _ q;have:=HBW.out;omega)
  exact this.ext HX2.out this.lt
 have HNA2:Hid (NodeAs W2 (fun j=>Ba≤j) na (.slice akA akn akc) (.slice avA avn avc) (.slice acA acn acc)):=(HNA.out.only hk2.only (fun i q q'=>by have:=HF1.out _ q';have q:Ba≤i:=q;omega)).ext HX2.out
 have hcall:=HB1.out.call hk2 HD1.out
 obtain⟨G2,hG2⟩:∃G2:Nat→Prop,(fun j=>(G1 j∧j<W1.heap.size)∨w2.heap.size≤j)=G2:=⟨_,rfl⟩
 obtain⟨M,hM⟩:∃M,W2.heap.size=M:=⟨_,rfl⟩
 have HM:=hD hM
 have hs2:W2.heap.size=w2.heap.size+1:=by rw[←hW2];simp
 have hB2:BoxG w2 W2 G2 D6 n (.slice (some ⟨gk,0,none⟩) n.keys.length kc) (.slice vA n.vals.length vc) (.slice (some ⟨g,0,none⟩) n.kids.length cc):=by rw[←hG2];exact hcall.1.ext HX2.out
 have HF2:Hid (∀i,F2 i→i<M):=fun i q=>by have:=hF2 i q;omega
 have HD2:Hid (∀i,F2 i→¬G2 i):=fun i q=>by rw[←hG2];exact hcall.2 i q (by have:=hF2 i q;omega)
 have HG2:Hid (∀i,G2 i→Un F G i∨D6≤i):=fun i q=>by
  rw[←hG2]at q
  rcases q with q | q
  ·exact HG1.out i q.1
  ·exact .inr (by omega)
 have HNF2:Hid (∀i,F2 i→F i∨D6≤i):=fun i q=>(hk2.new i q).elim (HNF1.out i) (fun q=> .inr (by omega))
 have HO2:Hid (Only (Un F G) w W2):=(HO1.out.trans hk2.only (fun i q=>(HNF1.out i q).imp .inl (fun q=>by rw[HD6.out];exact q))).ext HX2.out
 have HN2:Hid (¬F2 tr):=hk2.out (Nat.lt_of_lt_of_le htl (by omega)) HN1.out
 have HGT2:Hid (¬G2 tr):=fun q=>by
  rw[←hG2]at q
  rcases q with q | q
  ·exact HGT1.out q.1
  ·omega
 have HT2:Hid (Z0b W2 tr p i):=(hk2.only.row HT1.out HN1.out).ext HX2.out (by omega)
 have HP2:Hid (PagerAt W2 p F2 S):=hp2.ext HX2.out
 have HDM:Hid (D6≤M∧D6<M):=⟨by omega,by omega⟩
 have HB2:=hD hB2
 have HCELLO:Hid (∀W,Only (fun i=>M≤i) W2 W→W.cell? ⟨w1.heap.size,0,none⟩=some (.bool lf)∧W.cell? ⟨w1.heap.size,1,none⟩=some (.slice akA akn akc)∧W.cell? ⟨w1.heap.size,2,none⟩=some (.slice avA avn avc)∧W.cell? ⟨w1.heap.size,3,none⟩=some (.slice acA acn acc)∧W.cell? ⟨w2.heap.size,2,none⟩=some (.slice bvA bvn bvc)∧W.cell? ⟨w2.heap.size,3,none⟩=some (.slice bcA bcn bcc)):=fun W hW=>by
  have ra:=hW.row HRA2.out (fun q=>by omega)
  have rb:=hW.row HRB.out (fun q=>by omega)
  exact⟨ra.cell 0,ra.cell 1,ra.cell 2,ra.cell 3,rb.cell 2,rb.cell 3⟩
 have HCELL:Hid (∀W,Ext W2 W→W.cell? ⟨w1.heap.size,0,none⟩=some (.bool lf)∧W.cell? ⟨w1.heap.size,1,none⟩=some (.slice akA akn akc)∧W.cell? ⟨w1.heap.size,2,none⟩=some (.slice avA avn avc)∧W.cell? ⟨w1.heap.size,3,none⟩=some (.slice acA acn acc)∧W.cell? ⟨w2.heap.size,2,none⟩=some (.slice bvA bvn bvc)∧W.cell? ⟨w2.heap.size,3,none⟩=some (.slice bcA bcn bcc)):=fun W hW=>HCELLO.out W (Only.of hW)
 have HN:Hid (∀W,Only (fun i=>M≤i) W2 W→NodeAs W (fun i=>G2 i∧i<M) n (.slice (some ⟨gk,0,none⟩) n.keys.length kc) (.slice vA n.vals.length vc) (.slice (some ⟨g,0,none⟩) n.kids.length cc)∧Row1 W D6 257 [.bool n.leaf,.slice (some ⟨gk,0,none⟩) n.keys.length kc,.slice vA n.vals.length vc,.slice (some ⟨g,0,none⟩) n.kids.length cc]∧Row1 W w2.heap.size 257 [.bool nb.leaf,.slice bkA bkn bkc,.slice bvA bvn bvc,.slice bcA bcn bcc]∧OwnL W 0 9 1 encS (.slice bkA bkn bkc) nb.keys):=fun W hW=>by
  have h1:=hB2.own.shrink
  rw[hM]at h1
  refine⟨h1.only hW (fun i q r=>by have:=q.2;omega),hW.row hB2.row (fun q=>by omega),hW.row HRB.out (fun q=>by omega),HNB.out.keys.only hW (fun k q r=>by have:=(HNB.out.keys.lt k q).2;omega)⟩
 have HDAB:Hid (w1.heap.size<M∧w2.heap.size<M):=⟨by omega,by omega⟩
 obtain⟨LV,hLV⟩:∃LV,na.vals++nb.vals=LV:=⟨_,rfl⟩
 obtain⟨LC,hLC⟩:∃LC,na.kids++nb.kids=LC:=⟨_,rfl⟩
 have HLV:=hD hLV
 have HLC:=hD hLC
 have cCl:Hid (∀W,Ext W2 W→Calls Tryz.prog 269 #[.slice akA akn akc] W fun e w'=>∃v',e= .returned v'∧OwnL w' W.heap.size 9 1 encS v' na.keys∧Ext W w'):=fun W hW=>X7n W (HNA2.out.keys.ext hW) (by have:=hpaN.out;omega)
 have cCS:Hid (∀(b:Nat) (W:World),Ext W2 W→Row1 W b 85 [.slice avA avn avc,.slice bvA bvn bvc]→Calls Tryz.prog 270 #[.slice (some ⟨b,0,none⟩) 2 2] W fun e w'=>∃v',e= .returned v'∧OwnL w' W.heap.size 9 1 encS v' LV∧Ext W w'):=fun b W hW hr=>hLV▸V7p b W (HNA2.out.vals.ext hW) (HNB.out.vals.ext hW) hr (by have:=hpaN.out;have:=hpbN.out;omega)
 have cCN:Hid (∀(b:Nat) (W:World),Ext W2 W→Row1 W b 23 [.slice acA acn acc,.slice bcA bcn bcc]→Calls Tryz.prog 271 #[.slice (some ⟨b,0,none⟩) 2 2] W fun e w'=>∃v',e= .returned v'∧OwnL w' W.heap.size 3 1 encN v' LC∧Ext W w'):=fun b W hW hr=>hLC▸V7q b W (HNA2.out.kids.ext hW) (HNB.out.kids.ext hW) hr (by have:=hpaN.out;have:=hpbN.out;omega)
 clear hLV hLC hW2 hs2 hM hn2 hp2 hk2 hF2 hBW2 hcall hG2 hB2 x4 hgd hBb hBa
 refine wp_region_held_drew (S:=fun W=>W.cell? ⟨w1.heap.size,0,none⟩=some (.bool lf)∧W.cell? ⟨w1.heap.size,1,none⟩=some (.slice akA akn akc)∧W.cell? ⟨w1.heap.size,2,none⟩=some (.slice avA avn avc)∧W.cell? ⟨w1.heap.size,3,none⟩=some (.slice acA acn acc)∧W.cell? ⟨w2.heap.size,2,none⟩=some (.slice bvA bvn bvc)∧W.cell? ⟨w2.heap.size,3,none⟩=some (.slice bcA bcn bcc)) (by kernel_rfl) (HCELL.out _ (by exact Xt)) (fun hHeld=> ?_)
 refine' tk 0 ?_
 refine' tk 1 ?_
 refine' tk 2 ?_
 refine' tk 3 ?_
 refine' tk 5 ?_
 refine' tk 6 ?_
 refine' tk 7 ?_
 refine' tk 8 ?_
 refine' tk 11 ?_
 refine' tk 12 ?_
 refine' tk 13 ?_
 refine' tk 14 ?_
 refine U0p 20 Y7f 19 Z9r (U1q W2) (JG M lf na.keys LV LC (.slice avA avn avc) (.slice bvA bvn bvc) (.slice acA acn acc) (.slice bcA bcn bcc)) rfl (by kernel_rfl) (by decide) (by decide) (by kernel_rfl) ⟨by exact Xt,by kernel_rfl,undef,undef,undef,undef,undef,undef,undef,by kernel_rfl⟩ ?step ?fin
 case step=>
  intro i hi a w3 ⟨hx3,hsz,u51,u56,u57,u62,u63,u64,u12,ha⟩ hdep
  have HSZ:=hD hsz
  have hat:=X3p hsz u51 u56 u57 u62 u63 u64 u12
  rw[←ha]at hat
  obtain⟨p51,p56,p57,p62,p63,p64,p12⟩:=hat
  have HX3:=hD hx3
  have HS3:=HCELL.out w3 hx3
  have HM3:Hid (M≤w3.heap.size):=HM.out▸hx3.size
  clear hx3
  clear hsz
  simp only[Y7f,List.mem_cons,List.not_mem_nil,or_false]at hi
  rcases hi with rfl | rfl | rfl | rfl | rfl | rfl | rfl
  ·refine⟨_,rfl,fun K' hK=> ?_⟩
   clear hdep p51 p56 p57 p62 p63 p64 p12
   subst ha
   simp only[Z6t,List.setIfInBounds_toArray,List.set_cons_succ,List.set_cons_zero]
   go_simp
   (with_reducible refine(cCl.out _ HX3.out).mono ?_)
   rintro e w4 ⟨v,rfl,ho4,hx4⟩
   obtain⟨A4,c4,rfl⟩:=OwnL.form ho4
   (try dsimp only)
   exact hK.out _ (.slice A4 na.keys.length c4) w4 (by kernel_rfl) ⟨HX3.out.trans hx4,HSZ.out,.slice A4 na.keys.length c4,u56,u57,u62,u63,u64,u12,by kernel_rfl⟩ (JG.g4 ⟨A4,c4,by kernel_rfl,ho4.lower HM3.out⟩) (fun j hj hne hnd hg=>hg.put (i:=4) (by decide) rfl hj hne hnd hx4) (HCELL.out _ (HX3.out.trans hx4))
  ·refine⟨_,rfl,fun K' hK=> ?_⟩
   clear hdep p51 p56 p57 p62 p63 p64 p12
   subst ha
   simp only[Z6t,List.setIfInBounds_toArray,List.set_cons_succ,List.set_cons_zero]
   go_simp
   exact hK.out _ (.slice (some ⟨w3.heap.size,0,none⟩) 2 2) _ (by kernel_rfl) ⟨HX3.out.trans (Ext.alloc _ _),HSZ.out,u51,.slice (some ⟨w3.heap.size,0,none⟩) 2 2,u57,u62,u63,u64,u12,by kernel_rfl⟩ (JG.g9 ⟨w3.heap.size,by kernel_rfl,Row1.made w3 _ _⟩) (fun j hj hne hnd hg=>hg.put (i:=9) (by decide) rfl hj hne hnd (Ext.alloc _ _)) (HCELL.out _ (HX3.out.trans (Ext.alloc _ _)))
  ·refine⟨_,rfl,fun K' hK=> ?_⟩
   obtain⟨b,h1,h2⟩:=(hdep 9 (by simp[Z9r])).e9
   obtain⟨A4,c4,h3,h4⟩:=(hdep 4 (by simp[Z9r])).e4
   rw[p56]at h1
   injection h1 with h1
   rw[p51]at h3
   injection h3 with h3
   clear hdep p51 p56 p57 p62 p63 p64 p12
   subst h1 h3
   subst ha
   simp only[Z6t,List.setIfInBounds_toArray,List.set_cons_succ,List.set_cons_zero]
   go_simp
   (with_reducible refine(cCS.out b _ HX3.out h2).mono ?_)
   rintro e w4 ⟨v,rfl,ho4,hx4⟩
   obtain⟨A,c,rfl⟩:=OwnL.form ho4
   (try dsimp only)
   refine hK.out _ (.slice A LV.length c) w4 (by kernel_rfl) ⟨HX3.out.trans hx4,HSZ.out,.slice A4 na.keys.length c4,.slice (some ⟨b,0,none⟩) 2 2,.slice A LV.length c,u62,u63,u64,u12,by kernel_rfl⟩ (JG.g10 ⟨A,c,by kernel_rfl,ho4.lower HM3.out,fun v k hv hk hb=> ?_⟩) (fun j hj hne hnd hg=>hg.put (i:=10) (by decide) rfl hj hne hnd hx4) (HCELL.out _ (HX3.out.trans hx4))
   have e2:some (Value.slice A4 na.keys.length c4)=some v:=(by kernel_rfl:some (Value.slice A4 na.keys.length c4)=_).trans hv
   injection e2 with e2
   rw[←e2]at hk
   have:=(h4.lt k hk).2
   have:=(ho4.lt k hb).1
   omega
  ·refine⟨_,rfl,fun K' hK=> ?_⟩
   clear hdep p51 p56 p57 p62 p63 p64 p12
   subst ha
   simp only[Z6t,List.setIfInBounds_toArray,List.set_cons_succ,List.set_cons_zero]
   go_simp
   exact hK.out _ (.slice (some ⟨w3.heap.size,0,none⟩) 2 2) _ (by kernel_rfl) ⟨HX3.out.trans (Ext.alloc _ _),HSZ.out,u51,u56,u57,.slice (some ⟨w3.heap.size,0,none⟩) 2 2,u63,u64,u12,by kernel_rfl⟩ (JG.g15 ⟨w3.heap.size,by kernel_rfl,Row1.made w3 _ _⟩) (fun j hj hne hnd hg=>hg.put (i:=15) (by decide) rfl hj hne hnd (Ext.alloc _ _)) (HCELL.out _ (HX3.out.trans (Ext.alloc _ _)))
  ·refine⟨_,rfl,fun K' hK=> ?_⟩
   obtain⟨b,h1,h2⟩:=(hdep 15 (by simp[Z9r])).e15
   rw[p62]at h1
   injection h1 with h1
   clear hdep p51 p56 p57 p62 p63 p64 p12
   subst h1
   subst ha
   simp only[Z6t,List.setIfInBounds_toArray,List.set_cons_succ,List.set_cons_zero]
   go_simp
   (with_reducible refine(cCN.out b _ HX3.out h2).mono ?_)
   rintro e w4 ⟨v,rfl,ho4,hx4⟩
   obtain⟨A,c,rfl⟩:=OwnL.form ho4
   (try dsimp only)
   exact hK.out _ (.slice A LC.length c) w4 (by kernel_rfl) ⟨HX3.out.trans hx4,HSZ.out,u51,u56,u57,.slice (some ⟨b,0,none⟩) 2 2,.slice A LC.length c,u64,u12,by kernel_rfl⟩ (JG.g16 ⟨A,c,by kernel_rfl,ho4.lower HM3.out⟩) (fun j hj hne hnd hg=>hg.put (i:=16) (by decide) rfl hj hne hnd hx4) (HCELL.out _ (HX3.out.trans hx4))
  ·refine⟨_,rfl,fun K' hK=> ?_⟩
   obtain⟨A4,c4,h3,_⟩:=(hdep 4 (by simp[Z9r])).e4
   obtain⟨A5,c5,h5,_,_⟩:=(hdep 10 (by simp[Z9r])).e10
   obtain⟨A6,c6,h6,_⟩:=(hdep 16 (by simp[Z9r])).e16
   rw[p51]at h3
   injection h3 with h3
   rw[p57]at h5
   injection h5 with h5
   rw[p63]at h6
   injection h6 with h6
   clear hdep p51 p56 p57 p62 p63 p64 p12
   subst h3 h5 h6
   subst ha
   simp only[Z6t,List.setIfInBounds_toArray,List.set_cons_succ,List.set_cons_zero]
   go_simp
   exact hK.out _ (.agg #[.bool lf,.slice A4 na.keys.length c4,.slice A5 LV.length c5,.slice A6 LC.length c6]) w3 (by kernel_rfl) ⟨HX3.out,HSZ.out,.slice A4 na.keys.length c4,u56,.slice A5 LV.length c5,u62,.slice A6 LC.length c6,.agg #[.bool lf,.slice A4 na.keys.length c4,.slice A5 LV.length c5,.slice A6 LC.length c6],u12,by kernel_rfl⟩ (JG.g17 ⟨.slice A4 na.keys.length c4,.slice A5 LV.length c5,.slice A6 LC.length c6,by kernel_rfl,by kernel_rfl,by kernel_rfl,by kernel_rfl⟩) (fun j hj hne hnd hg=>hg.put (i:=17) (by decide) rfl hj hne hnd (Ext.refl _)) (HCELL.out _ HX3.out)
  ·refine⟨_,rfl,fun K' hK=> ?_⟩
   clear hdep p51 p56 p57 p62 p63 p64 p12
   subst ha
   simp only[Z6t,List.setIfInBounds_toArray,List.set_cons_succ,List.set_cons_zero]
   go_simp
   exact hK.out _ (.pointer (some ⟨w3.heap.size,0,none⟩)) _ (by kernel_rfl) ⟨HX3.out.trans (Ext.alloc _ _),HSZ.out,u51,u56,u57,u62,u63,u64,.pointer (some ⟨w3.heap.size,0,none⟩),by kernel_rfl⟩ (JG.g18 ⟨w3.heap.size,by kernel_rfl,HM3.out,Row1.made w3 _ _⟩) (fun j hj hne hnd hg=>hg.put (i:=18) (by decide) rfl hj hne hnd (Ext.alloc _ _)) (HCELL.out _ (HX3.out.trans (Ext.alloc _ _)))
 case fin=>
  intro a w3 ⟨hx3,hsz,u51,u56,u57,u62,u63,u64,u12,ha⟩ hgood
  have hat:=X3p hsz u51 u56 u57 u62 u63 u64 u12
  rw[←ha]at hat
  obtain⟨p51,p56,p57,p62,p63,p64,p12⟩:=hat
  obtain⟨A4,c4,h3,o4⟩:=(hgood 4 (by decide)).e4
  obtain⟨A5,c5,h5,o5,o5'⟩:=(hgood 10 (by decide)).e10
  obtain⟨A6,c6,h6,o6⟩:=(hgood 16 (by decide)).e16
  obtain⟨v1,v2,v3,h7,h8,h9,h10⟩:=(hgood 17 (by decide)).e17
  obtain⟨Dc,h11,hMc,hrc⟩:=(hgood 18 (by decide)).e18
  rw[p51]at h3 h7
  rw[p57]at h5 h8
  rw[p63]at h6 h9
  rw[p64]at h10
  rw[p12]at h11
  have hsep:=o5' u51
  rw[p51]at hsep
  injection h3 with h3
  injection h7 with h7
  injection h5 with h5
  injection h8 with h8
  injection h6 with h6
  injection h9 with h9
  injection h10 with h10
  injection h11 with h11
  subst h7 h8 h9
  subst h3 h5 h6 h10 h11
  have hox:=OwnL.ext (e:=9) o4 (Ext.refl w3)
  have HX3:=hD hx3
  have HOWN:Hid (OwnL w3 M 9 1 encS (.slice A4 na.keys.length c4) na.keys∧OwnL w3 M 9 1 encS (.slice A5 LV.length c5) LV∧OwnL w3 M 3 1 encN (.slice A6 LC.length c6) LC∧∀k,(Value.slice A4 na.keys.length c4).ownBlock=some k→(Value.slice A5 LV.length c5).ownBlock≠some k):=⟨o4,o5,o6,fun k hk=>hsep k rfl hk⟩
  have HMC:=hD hMc
  have HRC:=hD hrc
  obtain⟨c0,c1,c2,c3⟩:w3.cell? ⟨Dc,0,none⟩=some (.bool false)∧w3.cell? ⟨Dc,1,none⟩=some (.slice none 0 0)∧w3.cell? ⟨Dc,2,none⟩=some (.slice none 0 0)∧w3.cell? ⟨Dc,3,none⟩=some (.slice none 0 0):=⟨hrc.cell 0,hrc.cell 1,hrc.cell 2,hrc.cell 3⟩
  obtain⟨f0,f1,f2,f3⟩:w3.frozen? ⟨Dc,0,none⟩=false∧w3.frozen? ⟨Dc,1,none⟩=false∧w3.frozen? ⟨Dc,2,none⟩=false∧w3.frozen? ⟨Dc,3,none⟩=false:=⟨hrc.soft 0,hrc.soft 1,hrc.soft 2,hrc.soft 3⟩
  clear hgood p51 p56 p57 p62 p63 p64 p12 o4 o5 o6 o5' hsep hox hMc hx3 hsz
  subst ha
  refine stp 19 (fun K hK=> ?_)
  simp only[Z6t,List.setIfInBounds_toArray,List.set_cons_succ,List.set_cons_zero]
  go_simp
  have hr4:Row1 ((((w3.setCell ⟨Dc,0,none⟩ (.bool lf)).setCell ⟨Dc,1,none⟩ (.slice A4 na.keys.length c4)).setCell ⟨Dc,2,none⟩ (.slice A5 LV.length c5)).setCell ⟨Dc,3,none⟩ (.slice A6 LC.length c6)) Dc 257 [.bool lf,.slice A4 na.keys.length c4,.slice A5 LV.length c5,.slice A6 LC.length c6]:=(((HRC.out.set 0 _).set 1 _).set 2 _).set 3 _
  have ho4:Only (fun i=>i=Dc) w3 ((((w3.setCell ⟨Dc,0,none⟩ (.bool lf)).setCell ⟨Dc,1,none⟩ (.slice A4 na.keys.length c4)).setCell ⟨Dc,2,none⟩ (.slice A5 LV.length c5)).setCell ⟨Dc,3,none⟩ (.slice A6 LC.length c6)):=Y9s Dc _ _ _ _
  generalize World.setCell _ _ _=w4 at hr4 ho4 ⊢
  have HW4:Hid (Only (fun i=>M≤i) W2 w4):=(Only.of HX3.out).trans ho4 (fun i q=> .inl (by rw[q];exact HMC.out))
  have HB4:Hid (BoxG w4 w4 (fun i=>M≤i) Dc ⟨lf,na.keys,LV,LC⟩ (.slice A4 na.keys.length c4) (.slice A5 LV.length c5) (.slice A6 LC.length c6)):=by
   obtain⟨q1,q2,q3,q4⟩:=HOWN.out
   have hm:=HX3.out.size
   have hm2:=HM.out
   have hm3:=ho4.size
   exact⟨⟨(q1.lower (Nat.zero_le _)).only ho4 (fun k r e=>q1.apartRow HRC.out (by decide) (e▸r)),(q2.lower (Nat.zero_le _)).only ho4 (fun k r e=>q2.apartRow HRC.out (by decide) (e▸r)),(q3.lower (Nat.zero_le _)).only ho4 (fun k r e=>q3.apartRow HRC.out (by decide) (e▸r)),q4,fun b r=>(q1.lt b r).1,fun b r=>(q2.lt b r).1,fun b r=>(q3.lt b r).1⟩,hr4,Only.refl,HMC.out,fun j q=>by show M≤j;omega⟩
  clear c0 c1 c2 c3 f0 f1 f2 f3 hr4 ho4
  refine hK.out _ _ (HCELLO.out _ HW4.out) (fun hHeld=> ?_)
  clear hK K
  refine wpAnyH_done (by kernel_rfl) ?_ _
  obtain⟨K1,hK1⟩:∃K1,na.keys++(if lf=true then []else [s])=K1:=⟨_,rfl⟩
  have HK1':=hD hK1
  clear cCl cCS cCN HCELL HOWN HRC
  go_upto_if 67 with fail
  go_cut [12] (fun v wx=>v= .pointer (some ⟨Dc,0,none⟩)∧∃A c,Only (fun i=>M≤i) W2 wx∧BoxG wx wx (fun i=>M≤i) Dc ⟨lf,K1,LV,LC⟩ (.slice A K1.length c) (.slice A5 LV.length c5) (.slice A6 LC.length c6))
  case first=>
   cases lf with
   | true=>
     go_wp2_with fail
     go_meet
     obtain rfl:na.keys=K1:=by rw[←HK1'.out];simp
     exact⟨rfl,A4,c4,HW4.out,HB4.out⟩
   | false=>
     have hn4:=HN.out w4 HW4.out
     obtain⟨gk',ck',hgk,hlgk,hkc⟩:=Z4a hn4.1.keys j hjk
     injection hgk with e1 e2 e3
     injection e1 with e1
     injection e1 with e1
     subst e1 e3
     clear e2
     rw[HKS.out]at hkc
     simp only[Option.getD_some]at hkc
     have dk:w4.cell? ⟨D6,1,none⟩=some (.slice (some ⟨gk,0,none⟩) n.keys.length kc):=hn4.2.1.cell 1
     have dc:w4.cell? ⟨Dc,1,none⟩=some (.slice A4 na.keys.length c4):=HB4.out.row.cell 1
     have qk:(j:Int)<(n.keys.length:Int):=by omega
     have hlD6:D6<w4.heap.size:=hn4.2.1.lt
     have hlDc:Dc<w4.heap.size:=HB4.out.row.lt
     have HK2:Hid (na.keys++ [s]=K1):=hD (by have:=HK1'.out;simpa using this)
     clear hn4 hK1
     go_upto_region 11 with fail
     go_region_law (refine Z7p elStr Z0d Z1l rfl (.tmp 69) (.tmp 75) rfl (.slice A4 na.keys.length c4) na.keys rfl (HB4.out.own.keys.ext (by exact Xt)) (Nat.zero_le _) _ 1 s rfl (Row1.made' (by simp) _ (encS s)) (by have:=hpaN.out;omega) (by decide) ?_;intro A7 c7 w7 hown7 hgr7 hwh7;rw[HK2.out]at hown7 hwh7 ⊢;have hb7:=(fun (hx:Ext w4 _)=>BoxG.setK (BoxG.ext HB4.out hx) hown7 hwh7 (Only.grown hgr7)) (by exact Xt);have hr7:=(fun (hx:Ext w4 _)=>BoxG.rowK (BoxG.ext HB4.out hx) (Only.grown hgr7)) (by exact Xt);have g7:w7.cell? ⟨Dc,1,none⟩=_:=hr7.cell 1;have vf7:w7.frozen? ⟨Dc,1,none⟩=false:=hr7.soft 1;have HB7:=hD hb7;clear hown7 hgr7 hwh7 hr7 hb7)
     all_goals
      go_wp2_with fail
      go_meet
      exact⟨rfl,A7,c7,HW4.out.trans' HB7.out.only,HB7.out.now⟩
  case rest=>
  obtain⟨rfl,A7,c7,hW5,hB5⟩:=hcut
  have HW5:=hD hW5
  have HB5:=hD hB5
  have hn5:=HN.out wc HW5.out
  obtain⟨Ab,cb',hbe⟩:=OwnL.form hn5.2.2.2
  injection hbe with e1 e2 e3
  subst e1 e2 e3
  have HSRC:Hid (Src wc bkA nb.keys.length 1 (nb.keys.flatMap encS)):=Src.sl Z0d (by decide) (fun _ _ q=>q) (OwnL.sl (R:=fun x cs=>cs=encS x) Z0d (fun _=>rfl) hn5.2.2.2)
  have d1:wc.cell? ⟨Dc,1,none⟩=some (.slice A7 K1.length c7):=hB5.row.cell 1
  have b1:wc.cell? ⟨w2.heap.size,1,none⟩=some (.slice bkA nb.keys.length bkc):=hn5.2.2.1.cell 1
  obtain⟨K2,hK2⟩:∃K2,K1++nb.keys=K2:=⟨_,rfl⟩
  have HK2:=hD hK2
  have HK1L:Hid (K1.length+nb.keys.length≤1000):=by
   unfold Hid
   rw[←HK1'.out,List.length_append]
   have h1:(if lf=true then []else [s]).length≤1:=by split<;>simp
   have h2:=hpaN.out
   have h3:=hpbN.out
   omega
  have HBO:Hid (Y1h na s nb=⟨lf,K2,LV,LC⟩):=by
   unfold Hid Y1h
   rw[HLFA.out,HLV.out,HLC.out,←HK2.out,←HK1'.out]
  clear hn5 hK2 hK1 hB5 hW5
  go_upto_region 13 with (at_builtin;go_loud (refine Y8l elStr Z0d Z1l rfl (.tmp 79) (.tmp 81) rfl (.slice A7 K1.length c7) K1 rfl HB5.out.own.keys (Nat.zero_le _) bkA nb.keys.length bkc nb.keys rfl rfl HSRC.out (by have:=HK1L.out;omega) (by decide) ?_;intro A8 c8 w8 hown8 hgr8 hwh8;rw[HK2.out]at hown8 hwh8 ⊢;have HB8:=hD (HB5.out.setK hown8 hwh8 (Only.grown hgr8));have hr8:=HB5.out.rowK (Only.grown hgr8);have g8:w8.cell? ⟨Dc,1,none⟩=_:=hr8.cell 1;have vf8:w8.frozen? ⟨Dc,1,none⟩=false:=hr8.soft 1;clear hown8 hgr8 hwh8 hr8))
  have hb9:=HB8.out
  generalize World.setCell _ _ _=w9 at hb9 ⊢
  have HW9:Hid (Only (fun i=>M≤i) W2 w9):=HW5.out.trans' hb9.only
  have HB9:=hD hb9.now
  have HFR:Hid (Fair ⟨lf,K2,LV,LC⟩):=HBO.out▸HFAIR.out
  have cS:Calls Tryz.prog 265 #[.agg #[.bool lf,.slice A8 K2.length c8,.slice A5 LV.length c5,.slice A6 LC.length c6]] w9 fun e w'=>e= .returned (.int .i64 (Z0m ⟨lf,K2,LV,LC⟩))∧Ext w9 w':=Y6x w9 HB9.out.own HFR.out
  obtain⟨r0,r1,r2,r3⟩:w9.cell? ⟨Dc,0,none⟩=some (.bool lf)∧w9.cell? ⟨Dc,1,none⟩=some (.slice A8 K2.length c8)∧w9.cell? ⟨Dc,2,none⟩=some (.slice A5 LV.length c5)∧w9.cell? ⟨Dc,3,none⟩=some (.slice A6 LC.length c6):=⟨hb9.row.cell 0,hb9.row.cell 1,hb9.row.cell 2,hb9.row.cell 3⟩
  clear hb9 d1 b1
  obtain⟨sz,hsz⟩:∃sz,Z0m ⟨lf,K2,LV,LC⟩=sz:=⟨_,rfl⟩
  have HSZ:=hD hsz
  rw[hsz]at cS
  clear hsz
  by_cases hgt:256<sz
  ·have T1:decide ((256:Int)<(sz:Int))=true:=decide_eq_true (by omega)
   go_wp2_with (go_at_call 265;(with_reducible refine cS.mono ?_);clear cS;rintro e w10 ⟨rfl,hx10⟩)
   go_ret
   refine⟨rfl,S,F2,.inl ⟨by rw[HBO.out,HSZ.out];exact hgt,rfl⟩,(HP2.out.only HW9.out (fun i q r=>by have:=HF2.out i q;omega)).ext hx10,(HO2.out.trans HW9.out (fun i q=> .inr (by have:=HD6.out;have:=HDM.out.1;omega))).ext hx10,fun i q=>by rw[HD6.out];exact HNF2.out i q⟩
  ·have T1:decide ((256:Int)<(sz:Int))=false:=decide_eq_false (by omega)
   obtain⟨y1,y2,y3,y4,y5,y6⟩:=HFIT.out (by rw[HBO.out,HSZ.out];omega)
   have HY:=hD (show Z0r S at_∧NodeOk (Z9j n j)∧Z0m (Z9j n j)≤256 from⟨y1,y2,y3⟩)
   have HY4:Hid (NodeOk ⟨lf,K2,LV,LC⟩∧Z0m ⟨lf,K2,LV,LC⟩≤256):=⟨HBO.out▸y4,by rw[HSZ.out];omega⟩
   rw[HBO.out]at y6
   have HY5:=hD y5
   have HY6:=hD y6
   clear y1 y2 y3 y4 y5 y6
   have cS':Hid (Calls Tryz.prog 265 #[.agg #[.bool lf,.slice A8 K2.length c8,.slice A5 LV.length c5,.slice A6 LC.length c6]] w9 fun e w'=>e= .returned (.int .i64 sz)∧Ext w9 w'):=cS
   clear cS
   go_upto_region 15 with (go_at_call 265;(with_reducible refine cS'.out.mono ?_);clear cS';rintro e w10 ⟨rfl,hx10⟩)
   have HX10:=hD hx10
   have HW10:Hid (Only (fun i=>M≤i) W2 w10):=HW9.out.ext hx10
   have hn10:=HN.out w10 HW10.out
   have HN10:=hD hn10
   have HBO10:Hid (NodeAs w10 (fun i=>M≤i) ⟨lf,K2,LV,LC⟩ (.slice A8 K2.length c8) (.slice A5 LV.length c5) (.slice A6 LC.length c6)∧Row1 w10 Dc 257 [.bool lf,.slice A8 K2.length c8,.slice A5 LV.length c5,.slice A6 LC.length c6]):=⟨HB9.out.own.ext hx10,HB9.out.row.ext hx10 HB9.out.row.lt⟩
   have HP10:Hid (PagerAt w10 p F2 S):=HP2.out.only HW10.out (fun i q r=>by have:=HF2.out i q;omega)
   have HT10:Hid (Z0b w10 tr p i):=HW10.out.row HT2.out (fun q=>by have:=HM.out;have:=HT2.out.lt;omega)
   obtain⟨g2,cc2,hcv2,hlg2,hgd2⟩:=Z6f hn10.1.kids (j+1) (by omega)
   injection hcv2 with e1 e2 e3
   injection e1 with e1
   injection e1 with e1
   subst e1 e3
   clear e2
   rw[HKB.out]at hgd2
   simp only[Option.getD_some]at hgd2
   have z3:w10.cell? ⟨D6,3,none⟩=some (.slice (some ⟨g,0,none⟩) n.kids.length cc):=hn10.2.1.cell 3
   have z1:w10.cell? ⟨D6,1,none⟩=some (.slice (some ⟨gk,0,none⟩) n.keys.length kc):=hn10.2.1.cell 1
   have zf1:w10.frozen? ⟨D6,1,none⟩=false:=hn10.2.1.soft 1
   have cDK:=Y8a j w10 hn10.1.keys hjk (by omega)
   have hq2:((j+1:Nat):Int)=(j:Int)+1:=by omega
   have hq3:(j:Int)+1+1=(j:Int)+2:=by omega
   clear hn10 hx10 r0 r1 r2 r3
   go_upto_region 17 with (go_at_call 223;(with_reducible refine cDK.mono ?_);clear cDK;rintro e w11 ⟨kv',rfl,ho11,hob11,hx11⟩;obtain⟨kA',kc',rfl⟩:=OwnL.form ho11;have hk11:=NodeAs.eraseK HN10.out.1 HN10.out.2.1 ho11 hob11 hx11;have hr11:=hx11.row HN10.out.2.1 (HN10.out.1.keys.apartRow HN10.out.2.1 (by decide));have z1':w11.cell? ⟨D6,1,none⟩=some (.slice (some ⟨gk,0,none⟩) n.keys.length kc):=hr11.cell 1;have zf1':w11.frozen? ⟨D6,1,none⟩=false:=hr11.soft 1;have HK11:=hD hk11;clear ho11 hob11 hx11 hk11 hr11)
   have hk12:=HK11.out
   generalize World.setCell _ _ _=w12 at hk12 ⊢
   have HK12:=hD hk12
   have z5:w12.cell? ⟨D6,3,none⟩=some (.slice (some ⟨g,0,none⟩) n.kids.length cc):=hk12.2.1.cell 3
   have cDC:=V7m (j+1) w12 hk12.1.kids (by show j+1<n.kids.length;omega) (by show n.kids.length≤_;omega)
   rw[hq2,hq3]at cDC
   clear hk12 z1 z3 zf1 z1' zf1' HK11 hgd2
   go_upto_region 18 with (go_at_call 272;(with_reducible refine cDC.mono ?_);clear cDC;rintro e w13 ⟨cv',rfl,ho13,hob13,hx13⟩;obtain⟨cA',cc',rfl⟩:=OwnL.form ho13;have hk13:=NodeAs.eraseC HK12.out.1 HK12.out.2.1 ho13 hob13 hx13;have hr13:=hx13.row HK12.out.2.1 (HK12.out.1.kids.apartRow HK12.out.2.1 (by decide));have z5':w13.cell? ⟨D6,3,none⟩=some (.slice (some ⟨g,0,none⟩) n.kids.length cc):=hr13.cell 3;have zf5':w13.frozen? ⟨D6,3,none⟩=false:=hr13.soft 3;have HK13:=hD hk13;clear ho13 hob13 hx13 hk13 hr13)
   have hk14:=HK13.out
   generalize World.setCell _ _ _=w14 at hk14 ⊢
   have hgk:G2 gk∧gk<M:=HN10.out.1.fk gk rfl
   have hgg:G2 g∧g<M:=HN10.out.1.fc g rfl
   have hgD:G2 D6:=HB2.out.bd
   have HO14:Hid (Only (fun i=>i=gk∨i=g∨i=D6) w10 w14):=(HK12.out.2.2.mono (F':=fun i=>i=gk∨i=g∨i=D6) (fun i q=> .inl (q.elim (fun q=> .inl (by injection q with q;exact q.symm)) (fun q=> .inr (.inr q))))).trans' (hk14.2.2.mono (fun i q=> .inl (q.elim (fun q=> .inr (.inl (by injection q with q;exact q.symm))) (fun q=> .inr (.inr q)))))
   have HP14:Hid (PagerAt w14 p F2 S):=HP10.out.only HO14.out (fun i q r=>by rcases r with rfl | rfl | rfl;exact HD2.out _ q hgk.1;exact HD2.out _ q hgg.1;exact HD2.out _ q hgD)
   have HT14:Hid (Z0b w14 tr p i):=HO14.out.row HT10.out (fun r=>by rcases r with rfl | rfl | rfl;exact HGT2.out hgk.1;exact HGT2.out hgg.1;exact HGT2.out hgD)
   have HBO14:Hid (NodeAs w14 (fun i=>M≤i) ⟨lf,K2,LV,LC⟩ (.slice A8 K2.length c8) (.slice A5 LV.length c5) (.slice A6 LC.length c6)∧Row1 w14 Dc 257 [.bool lf,.slice A8 K2.length c8,.slice A5 LV.length c5,.slice A6 LC.length c6]):=by
    have hd:=HDM.out.2
    have hmc:=HMC.out
    exact⟨HBO10.out.1.only HO14.out (fun i q r=>by have q:M≤i:=q;omega),HO14.out.row HBO10.out.2 (fun r=>by omega)⟩
   have HNL:Hid (NodeAs w14 (fun i=>G2 i∧i<M) (Z9j n j) (.slice kA' (n.keys.eraseIdx j).length kc') (.slice vA n.vals.length vc) (.slice cA' (n.kids.eraseIdx (j+1)).length cc')):=hk14.1
   have HRL:Hid (Row1 w14 D6 257 [.bool n.leaf,.slice kA' (n.keys.eraseIdx j).length kc',.slice vA n.vals.length vc,.slice cA' (n.kids.eraseIdx (j+1)).length cc']):=hk14.2.1
   obtain⟨m0,m1,m2,m3⟩:w14.cell? ⟨D6,0,none⟩=some (.bool n.leaf)∧w14.cell? ⟨D6,1,none⟩=some (.slice kA' (n.keys.eraseIdx j).length kc')∧w14.cell? ⟨D6,2,none⟩=some (.slice vA n.vals.length vc)∧w14.cell? ⟨D6,3,none⟩=some (.slice cA' (n.kids.eraseIdx (j+1)).length cc'):=⟨hk14.2.1.cell 0,hk14.2.1.cell 1,hk14.2.1.cell 2,hk14.2.1.cell 3⟩
   obtain⟨LK',hLK'⟩:∃l,n.keys.eraseIdx j=l:=⟨_,rfl⟩
   obtain⟨LC',hLC'⟩:∃l,n.kids.eraseIdx (j+1)=l:=⟨_,rfl⟩
   have hLCj:LC'[j]? =some (ai:Int):=by rw[←hLC',List.getElem?_eraseIdx,if_pos (by omega)];exact HKA.out
   rw[hLK',hLC']at HNL HRL
   rw[hLK']at m1
   rw[hLC']at m3
   rw[hLK',hLC']
   have cL1:Hid (Calls Tryz.prog 177 #[.pointer (some ⟨tr,0,none⟩),.int .i64 at_,.agg #[.bool n.leaf,.slice kA' LK'.length kc',.slice vA n.vals.length vc,.slice cA' LC'.length cc']] w14 fun e w'=>e= .returned (.int .i64 0)∧∃F',PagerAt w' p F' (layP S at_ (Z9j n j))∧Keeps F2 F' w14 w'):=Y0s at_ (Z9j n j) w14 HT14.out HN2.out HP14.out HY.out.1 HY.out.2.1 HY.out.2.2 HNL.out
   clear hk14 z5 z5' zf5' HK13 hgk hgg hgD
   go_upto_region 21 with (go_at_call 177;(with_reducible refine cL1.out.mono ?_);clear cL1;rintro e w15 ⟨rfl,F3,hp15,hk15⟩)
   have HP15:=hD hp15
   have HK15:=hD hk15
   have HT15:Hid (Z0b w15 tr p i):=hk15.only.row HT14.out HN2.out
   have HN15:Hid (¬F3 tr):=hk15.out HT14.out.lt HN2.out
   have hRL15:Row1 w15 D6 257 [.bool n.leaf,.slice kA' LK'.length kc',.slice vA n.vals.length vc,.slice cA' LC'.length cc']:=hk15.only.row HRL.out (fun q=>HD2.out _ q HB2.out.bd)
   have hNL15:OwnL w15 0 3 1 encN (.slice cA' LC'.length cc') LC':=by
    have h1:=HNL.out.kids.only hk15.only (fun k q r=>HD2.out k r (HNL.out.fc k q).1)
    rw[show (Z9j n j).kids=LC' from hLC']at h1
    exact h1
   have hBO15:NodeAs w15 (fun i=>M≤i) ⟨lf,K2,LV,LC⟩ (.slice A8 K2.length c8) (.slice A5 LV.length c5) (.slice A6 LC.length c6):=HBO14.out.1.only hk15.only (fun i q r=>by have:=HF2.out i r;have q:M≤i:=q;omega)
   have hDB15:Row1 w15 Dc 257 [.bool lf,.slice A8 K2.length c8,.slice A5 LV.length c5,.slice A6 LC.length c6]:=hk15.only.row HBO14.out.2 (fun r=>by have:=HF2.out _ r;have:=HMC.out;omega)
   have hLl:j<LC'.length:=by
    rcases Nat.lt_or_ge j LC'.length with q | q
    ·exact q
    ·rw[List.getElem?_eq_none q]at hLCj;cases hLCj
   obtain⟨g3,cc3,hcv3,hlg3,hgd3⟩:=Z6f hNL15 j hLl
   rw[hLCj]at hgd3
   simp only[Option.getD_some]at hgd3
   injection hcv3 with e1 e2 e3
   subst e1 e3
   clear e2
   have ql:(j:Int)<(LC'.length:Int):=by omega
   have HCELLS:Hid (∀W,Ext w15 W→W.cell? ⟨D6,3,none⟩=some (.slice (some ⟨g3,0,none⟩) LC'.length cc')∧W.cell? ⟨g3,j,none⟩=some (.int .i64 (ai:Int))∧W.cell? ⟨Dc,0,none⟩=some (.bool lf)∧W.cell? ⟨Dc,1,none⟩=some (.slice A8 K2.length c8)∧W.cell? ⟨Dc,2,none⟩=some (.slice A5 LV.length c5)∧W.cell? ⟨Dc,3,none⟩=some (.slice A6 LC.length c6)):=fun W hW=>by
    have r1:=hRL15.ext hW hRL15.lt
    have r2:=hDB15.ext hW hDB15.lt
    exact⟨r1.cell 3,(hW.cell (p:=⟨g3,j,none⟩) hlg3).trans hgd3,r2.cell 0,r2.cell 1,r2.cell 2,r2.cell 3⟩
   have HBO15:=hD hBO15
   have cL2:Hid (∀W,Ext w15 W→Calls Tryz.prog 177 #[.pointer (some ⟨tr,0,none⟩),.int .i64 ai,.agg #[.bool lf,.slice A8 K2.length c8,.slice A5 LV.length c5,.slice A6 LC.length c6]] W fun e w'=>e= .returned (.int .i64 0)∧∃F',PagerAt w' p F' (layP (layP S at_ (Z9j n j)) ai ⟨lf,K2,LV,LC⟩)∧Keeps F3 F' W w'):=fun W hW=>
    Y0s ai ⟨lf,K2,LV,LC⟩ W (HT15.out.ext hW HT15.out.lt) HN15.out (HP15.out.ext hW) HY5.out HY4.out.1 HY4.out.2 (HBO15.out.ext hW)
   have HCD:Hid (∀(F':Nat→Prop) (W W':World),Keeps F3 F' W W'→Ext w15 W→W'.cell? ⟨D6,3,none⟩=some (.slice (some ⟨g3,0,none⟩) LC'.length cc')∧W'.cell? ⟨g3,j,none⟩=some (.int .i64 (ai:Int))∧W'.cell? ⟨Dc,0,none⟩=some (.bool lf)∧W'.cell? ⟨Dc,1,none⟩=some (.slice A8 K2.length c8)∧W'.cell? ⟨Dc,2,none⟩=some (.slice A5 LV.length c5)∧W'.cell? ⟨Dc,3,none⟩=some (.slice A6 LC.length c6)):=fun F' W W' hk hx=>by
    have hz:=HK15.out.only.size
    have hl0:=HNL.out.kids
    have n1:¬F3 D6:=HK15.out.out HRL.out.lt (fun q=>HD2.out _ q HB2.out.bd)
    have hg3:G2 g3∧g3<M:=HNL.out.fc g3 rfl
    have n2:¬F3 g3:=HK15.out.out (HNL.out.kids.lt g3 rfl).2 (fun q=>HD2.out _ q hg3.1)
    have n3:¬F3 Dc:=HK15.out.out HBO14.out.2.lt (fun q=>by have:=HF2.out _ q;have:=HMC.out;omega)
    have r1:=hk.only.row (hRL15.ext hx hRL15.lt) n1
    have r2:=hk.only.row (hDB15.ext hx hDB15.lt) n3
    exact⟨r1.cell 3,(hk.only.cell (Nat.lt_of_lt_of_le hlg3 hx.size) n2).trans ((hx.cell (p:=⟨g3,j,none⟩) hlg3).trans hgd3),r2.cell 0,r2.cell 1,r2.cell 2,r2.cell 3⟩
   clear hp15 hk15 hRL15 hNL15 hBO15 hDB15 hgd3 m0 m1 m2 m3
   refine wp_region_held_drew (S:=fun W=>W.cell? ⟨D6,3,none⟩=some (.slice (some ⟨g3,0,none⟩) LC'.length cc')∧W.cell? ⟨g3,j,none⟩=some (.int .i64 (ai:Int))∧W.cell? ⟨Dc,0,none⟩=some (.bool lf)∧W.cell? ⟨Dc,1,none⟩=some (.slice A8 K2.length c8)∧W.cell? ⟨Dc,2,none⟩=some (.slice A5 LV.length c5)∧W.cell? ⟨Dc,3,none⟩=some (.slice A6 LC.length c6)) (by kernel_rfl) (HCELLS.out _ (by exact Xt)) (fun hHeld=> ?_)
   refine' tk 0 ?_
   refine' tk 1 ?_
   refine' tk 2 ?_
   refine' tk 3 ?_
   refine' tk 4 ?_
   refine' tk 5 ?_
   refine' tk 6 ?_
   refine stp 7 (fun K hK=> ?_);go_simp
   (with_reducible refine(cL2.out _ ?_).mono ?_)
   ·exact Xt
   rintro e w16 ⟨rfl,F4,hp16,hk16⟩
   have HX15:Hid (Ext w15 w15.drew):=Below.drew (Ext.refl _)
   have HP16:=hD hp16
   have HK16:=hD hk16
   clear hp16 hk16
   (try dsimp only)
   (try go_simp)
   refine hK.out _ _ (HCD.out _ _ _ HK16.out HX15.out) (fun hHeld=> ?_)
   clear hK K
   refine pt ?_
   refine' tk 8 ?_
   refine wpAnyH_done (by kernel_rfl) ?_ _
   have hT16:Z0b w16 tr p i:=HK16.out.only.row (HT15.out.ext HX15.out HT15.out.lt) HN15.out
   have t0:w16.cell? ⟨tr,0,none⟩=some (.pointer (some ⟨p,0,none⟩)):=hT16.cell 0
   have cFr:=Y3d bi w16 HP16.out HY6.out
   go_wp2_with (go_at_call 187;(with_reducible refine cFr.mono ?_);clear cFr;rintro e w17 ⟨rfl,F5,hp17,hk17⟩)
   go_ret
   have hk:Keeps F2 F5 w14 w17:=((HK15.out.ext HX15.out).trans HK16.out).trans hk17
   have hm:=HM.out
   have hd6:=HD6.out
   have hdm:=HDM.out.1
   have hz2:=HO2.out.size
   have hz3:=HW10.out.size
   have hz4:=HO14.out.size
   refine⟨rfl,_,F5,.inr ⟨by rw[HBO.out,HSZ.out];omega,by rw[HBO.out]⟩,hp17,?_,fun q r=> ?_⟩
   ·have g1:=HG2.out
    refine((HO2.out.trans HW10.out (fun i q=> .inr (by omega))).trans HO14.out (fun i q=> ?_)).trans hk.only (fun i q=> ?_)
    ·have hgk:G2 gk∧gk<M:=HN10.out.1.fk gk rfl
     have hgg:G2 g∧g<M:=HN10.out.1.fc g rfl
     rw[hd6]
     rcases q with rfl | rfl | rfl
     ·exact g1 _ hgk.1
     ·exact g1 _ hgg.1
     ·exact g1 _ HB2.out.bd
    ·rw[hd6]
     exact(HNF2.out i q).imp .inl id
   ·rw[hd6]
    rcases hk.new q r with r | r
    ·exact HNF2.out q r
    ·exact .inr (by omega)
end Go.Proofs.YtmiolpfanlpfnaaGreat
