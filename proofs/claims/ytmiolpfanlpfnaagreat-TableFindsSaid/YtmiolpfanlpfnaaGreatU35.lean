/- A tree's node takes a record (put), at any depth. Conditions: pages that bear a tree; room for what may be cut. -/
import Derived.Test.YtmiolpfanlpfnaaGreatU34
import Derived.Test.YtmiolpfanlpfnaaGreatU32
set_option maxRecDepth 100000
set_option maxHeartbeats 4000000
set_option linter.unusedSimpArgs false
set_option linter.unusedVariables false
namespace Go.Proofs.YtmiolpfanlpfnaaGreat
open Go.RowKit
def midO(d:Nat)(o:Option (ByteArray×TT d)):ByteArray:=match o with | none=>⟨#[]⟩ | some x=>x.1
def Y2v(d:Nat)(o:Option (ByteArray×TT d)):Nat:=match o with | none=>0 | some x=>atT d x.2
def Z8t(d p:Nat)(F:Nat→Prop)(S:StoreD)(t:TT d)(k v:ByteArray)(w:World)(e:Ending)(w':World):Prop:=
 ∃(S':StoreD) (t':TT d) (o:Option (ByteArray×TT d)),e= .returned (.tuple #[.string (midO d o),.int .i64 (Y2v d o),.int .i64 0])∧PutR d S t k v S' t' o∧∃F',PagerAt w' p F' S'∧Keeps F F' w w'
theorem V4z{tr p i:Nat}{F:Nat→Prop}{S:StoreD}(D:Nat)(t:TT 0)(k v:ByteArray)(w:World)(ht:Z0b w tr p i)(hnt:¬F tr)(h:PagerAt w p F S)(hf:Fm S)(hon:onT S 0 t)(hok:okT 0 t)(hk:Z3g k)(hv:v.size≤80)(hr:1≤Z0z S)(hd:0<D):
  Calls Tryz.prog 180 #[.pointer (some ⟨tr,0,none⟩),.int .i64 (LeafT.at_ t),.int .i64 D,.string k,.string v] w (Z8t 0 p F S t k v w):=by
 have hfit:=Y9m hon hok hk hv
 have hfit':NodeFit (putN (Z0c 0 t) k v):=Eq.mp (congrArg NodeFit (Z5g t k v)) hfit
 have hcut:=V3g (t:=tr) (p:=p) (i:=i) (LeafT.at_ t) (putN (Z0c 0 t) k v) (PageN.given hon) hf hfit' hr
 have fin:∀e w',(∃(mid:ByteArray) (right:Nat) (S':StoreD),e= .returned (.tuple #[.string mid,.int .i64 right,.int .i64 0])∧CutQ S (LeafT.at_ t) (putN (Z0c 0 t) k v) mid right S'∧∃F',PagerAt w' p F' S'∧Keeps F F' w w')→Z8t 0 p F S t k v w e w':=by
  rintro e w' ⟨mid,right,S',rfl,hc,hp⟩
  rcases hc with ⟨hc,rfl,rfl⟩ | ⟨m,hc,hm⟩
  ·exact⟨S',Z6i t k v,none,rfl,⟨none,Eq.mpr (congrArg (fun n=>CutD S (LeafT.at_ t) n none S') (Z5g t k v)) hc,rfl,rfl⟩,hp⟩
  ·refine⟨S',LeafT.mk (LeafT.at_ t) ((Z6i t k v).keys.take m) ((Z6i t k v).vals.take m),some (mid,LeafT.mk right ((Z6i t k v).keys.drop m) ((Z6i t k v).vals.drop m)),rfl,⟨some (m,right),Eq.mpr (congrArg (fun n=>CutD S (LeafT.at_ t) n (some (m,right)) S') (Z5g t k v)) hc,mid,hm,rfl,rfl⟩,hp⟩
 cases hh:hasB (Z0c 0 t).keys k with
 | true=>exact(Y9i (LeafT.at_ t) D k v (Z0c 0 t) w ht hnt h hon rfl hok.1 hd hh hcut).mono fin
 | false=>exact(Y9h (LeafT.at_ t) D k v (Z0c 0 t) w ht hnt h hon rfl hok.1 hd hh hcut).mono fin
theorem NodeAs.shrink'{w W:World}{F F':Nat→Prop}{n:NodeD}{kv vv cv:Value}(h:NodeAs w F n kv vv cv)(hF:∀i,F i→i<W.heap.size→F' i)(k:NodeAs W F n kv vv cv):NodeAs w F' n kv vv cv:=
 ⟨h.keys,h.vals,h.kids,h.sep,fun b q=>hF b (h.fk b q) (k.keys.lt b q).2,fun b q=>hF b (h.fv b q) (k.vals.lt b q).2,fun b q=>hF b (h.fc b q) (k.kids.lt b q).2⟩
structure BoxG (w1 W:World) (G:Nat→Prop) (D:Nat) (n:NodeD) (kv vv cv:Value):Prop where
 own:NodeAs W G n kv vv cv
 row:Row1 W D 257 [.bool n.leaf,kv,vv,cv]
 only:Only G w1 W
 bd:G D
 up:∀j,w1.heap.size≤j→G j
section
variable {w1 W w3:World} {G:Nat→Prop} {D:Nat} {n:NodeD} {kv vv cv:Value}
theorem BoxG.ext(h:BoxG w1 W G D n kv vv cv)(hb:Ext W w3):BoxG w1 w3 G D n kv vv cv:=⟨h.own.ext hb,h.row.ext hb h.row.lt,h.only.ext hb,h.bd,h.up⟩
theorem BoxG.made(h:NodeAs w1 G n kv vv cv)(hu:∀j,w1.heap.size≤j→G j):BoxG w1 (w1.alloc (.cells #[.bool n.leaf,kv,vv,cv] 257)) G w1.heap.size n kv vv cv:=
 ⟨h.ext (Ext.alloc _ _),Row1.made w1 _ _,Only.of (Ext.alloc _ _),hu _ (Nat.le_refl _),hu⟩
theorem BoxG.rowK(h:BoxG w1 W G D n kv vv cv)(hx:Only (fun j=>kv.ownBlock=some j) W w3):Row1 w3 D 257 [.bool n.leaf,kv,vv,cv]:=hx.row h.row (h.own.keys.apartRow h.row (by decide))
theorem BoxG.rowC(h:BoxG w1 W G D n kv vv cv)(hx:Only (fun j=>cv.ownBlock=some j) W w3):Row1 w3 D 257 [.bool n.leaf,kv,vv,cv]:=hx.row h.row (h.own.kids.apartRow h.row (by decide))
theorem BoxG.new(h:BoxG w1 W G D n kv vv cv){b:Nat}(hb:W.heap.size≤b):G b:=h.up b (Nat.le_trans h.only.size hb)
theorem BoxG.setK(h:BoxG w1 W G D n kv vv cv){kv':Value}{K':List ByteArray}(hown:OwnL w3 0 9 1 encS kv' K')(hwh:∀b,kv'.ownBlock=some b→kv.ownBlock=some b∨W.heap.size≤b)(hx:Only (fun j=>kv.ownBlock=some j) W w3):
  BoxG w1 (w3.setCell ⟨D,1,none⟩ kv') G D { n with keys:=K'} kv' vv cv:=by
 have ho:=Y4w w3 D 1 kv'
 have hr3:=h.rowK hx
 have hv3:=h.own.vals.only hx (fun k q q'=>h.own.sep k q' q)
 have hc3:=h.own.kids.only hx (fun k q q'=>h.own.kids.apart h.own.keys (by decide) q q')
 have hF:∀b,kv'.ownBlock=some b→G b:=fun b q=>(hwh b q).elim (h.own.fk b) h.new
 refine⟨⟨hown.only ho (fun k q q'=>hown.apartRow hr3 (by decide) (by rw[q,q'])),hv3.only ho (fun k q q'=>hv3.apartRow hr3 (by decide) (by rw[q,q'])),hc3.only ho (fun k q q'=>hc3.apartRow hr3 (by decide) (by rw[q,q'])),fun b q q'=> ?_,hF,h.own.fv,h.own.fc⟩,hr3.set 1 kv',?_,h.bd,h.up⟩
 ·rcases hwh b q with r | r
  ·exact h.own.sep b r q'
  ·have:=(h.own.vals.lt b q').2;omega
 ·exact(h.only.trans' (hx.mono (fun i q=> .inl (h.own.fk i q)))).trans' (ho.mono (fun i q=> .inl (by rw[q];exact h.bd)))
theorem BoxG.setC(h:BoxG w1 W G D n kv vv cv){cv':Value}{C':List Int}(hown:OwnL w3 0 3 1 encN cv' C')(hwh:∀b,cv'.ownBlock=some b→cv.ownBlock=some b∨W.heap.size≤b)(hx:Only (fun j=>cv.ownBlock=some j) W w3):
  BoxG w1 (w3.setCell ⟨D,3,none⟩ cv') G D { n with kids:=C'} kv vv cv':=by
 have ho:=Y4w w3 D 3 cv'
 have hr3:=h.rowC hx
 have hk3:=h.own.keys.only hx (fun k q q'=>h.own.keys.apart h.own.kids (by decide) q q')
 have hv3:=h.own.vals.only hx (fun k q q'=>h.own.vals.apart h.own.kids (by decide) q q')
 have hF:∀b,cv'.ownBlock=some b→G b:=fun b q=>(hwh b q).elim (h.own.fc b) h.new
 refine⟨⟨hk3.only ho (fun k q q'=>hk3.apartRow hr3 (by decide) (by rw[q,q'])),hv3.only ho (fun k q q'=>hv3.apartRow hr3 (by decide) (by rw[q,q'])),hown.only ho (fun k q q'=>hown.apartRow hr3 (by decide) (by rw[q,q'])),h.own.sep,h.own.fk,h.own.fv,hF⟩,hr3.set 3 cv',?_,h.bd,h.up⟩
 exact(h.only.trans' (hx.mono (fun i q=> .inl (h.own.fc i q)))).trans' (ho.mono (fun i q=> .inl (by rw[q];exact h.bd)))
theorem BoxG.call{F F':Nat→Prop}(h:BoxG w1 W G D n kv vv cv)(hk:Keeps F F' W w3)(hF:∀i,F i→¬G i):
  BoxG w3 w3 (fun j=>(G j∧j<W.heap.size)∨w3.heap.size≤j) D n kv vv cv∧∀j,F' j→j<w3.heap.size→¬((G j∧j<W.heap.size)∨w3.heap.size≤j):=by
 refine⟨⟨(h.own.only hk.only (fun i q q'=>hF i q' q)).shrink' (fun i q1 q2=> ?_) h.own,hk.only.row h.row (fun q=>hF _ q h.bd),Only.refl,.inl ⟨h.bd,h.row.lt⟩,fun j q=> .inr q⟩,fun j q1 q2 q3=> ?_⟩
 ·exact .inl ⟨q1,q2⟩
 ·rcases hk.new j q1 with r | r
  ·rcases q3 with q3 | q3
   ·exact hF j r q3.1
   ·omega
  ·omega
end
theorem V5y{α β:Type}(f:α→β)(l:List α)(i:Nat)(x:α):(insL l i x).map f=insL (l.map f) i (f x):=by
 unfold insL
 rw[List.map_append,List.map_cons,List.map_take,List.map_drop]
theorem V5u{d:Nat}{t:TT (d+1)}{j:Nat}{c c' r:TT d}{mid:ByteArray}(hc:(InT.kids t)[j]? =some c)(ha:atT d c'=atT d c):
  NodeD.mk (Z0c (d+1) t).leaf (insL (Z0c (d+1) t).keys j mid) (Z0c (d+1) t).vals (insL (Z0c (d+1) t).kids (j+1) (atT d r:Int))=Z0c (d+1) (InT.mk (InT.at_ t) (insL (InT.keys t) j mid) (insL ((InT.kids t).set j c') (j+1) r)):=by
 show NodeD.mk false _ [] _=NodeD.mk false _ [] _
 congr 1
 rw[V5y,Z5j hc ha]
 rfl
theorem U0x{d:Nat}{S S1 S':StoreD}{L:TT (d+1)}{mid:ByteArray}{right:Nat}(h:CutQ S1 (InT.at_ L) (Z0c (d+1) L) mid right S'):∃t' o,V3v d S1 L S' t' o∧midO (d+1) o=mid∧Y2v (d+1) o=right:=by
 rcases h with ⟨h,rfl,rfl⟩ | ⟨m,h,hm⟩
 ·exact⟨L,none,⟨none,h,rfl,rfl⟩,rfl,rfl⟩
 ·exact⟨InT.mk (InT.at_ L) ((InT.keys L).take m) ((InT.kids L).take (m+1)),some (mid,InT.mk right ((InT.keys L).drop (m+1)) ((InT.kids L).drop (m+1))),⟨some (m,right),h,mid,hm,rfl,rfl⟩,rfl,rfl⟩
theorem X9q{tr p i d:Nat}{F:Nat→Prop}{S:StoreD}(D:Nat)(t:TT (d+1))(k v:ByteArray)(w:World)(ht:Z0b w tr p i)(hnt:¬F tr)(h:PagerAt w p F S)(hf:Fm S)(hon:onT S (d+1) t)(hok:okT (d+1) t)(hk:Z3g k)(hv:v.size≤80)(hr:d+2≤Z0z S)(hnd:(Z0a (d+1) t).Nodup)(jH:D≤1000)
 (hIH:∀(F:Nat→Prop) (w:World) (c:TT d),c∈InT.kids t→Z0b w tr p i→¬F tr→PagerAt w p F S→Calls Tryz.prog 180 #[.pointer (some ⟨tr,0,none⟩),.int .i64 (atT d c),.int .i64 D,.string k,.string v] w (Z8t d p F S c k v w)):
  Calls Tryz.prog 180 #[.pointer (some ⟨tr,0,none⟩),.int .i64 (InT.at_ t),.int .i64 ((D+1:Nat):Int),.string k,.string v] w (Z8t (d+1) p F S t k v w):=by
 have hkeys:(Z0c (d+1) t).keys=InT.keys t:=rfl
 have hpg:=Z3t (d+1) t hon
 have cL:=Z1k (InT.at_ t) (Z0c (d+1) t) w ht h hpg
 have hkl:(InT.kids t).length=(InT.keys t).length+1:=hok.2.1
 have hj:Z0g (InT.keys t) k<(InT.kids t).length:=by have:=Z4g (k:=k) hok.1;omega
 have hmany:=hpg.ok.many
 rw[hkeys]at hmany
 obtain⟨c,hc⟩:∃c,(InT.kids t)[Z0g (InT.keys t) k]? =some c:=⟨_,List.getElem?_eq_getElem hj⟩
 have hcm:c∈InT.kids t:=List.mem_of_getElem? hc
 have HKID:Hid ((Z0c (d+1) t).kids[Z0g (InT.keys t) k]?.getD 0=(atT d c:Int)):=by
  unfold Hid
  show(((InT.kids t).map fun c=>(atT d c:Int))[Z0g (InT.keys t) k]?).getD 0=_
  rw[List.getElem?_map,hc];rfl
 have HKL:Hid (Z0g (InT.keys t) k<(Z0c (d+1) t).kids.length):=by
  unfold Hid
  show _<((InT.kids t).map _).length
  rw[List.length_map];exact hj
 have HDK:Hid (Z0g (InT.keys t) k≤(Z0c (d+1) t).keys.length):=Z4g hok.1
 have HCL:Hid ((Z0c (d+1) t).kids.length=(Z0c (d+1) t).keys.length+1):=by
  unfold Hid
  show((InT.kids t).map _).length=_
  rw[List.length_map];exact hkl
 have HMANY:Hid ((Z0c (d+1) t).keys.length≤255):=hmany
 have HDN:Hid (∀W kv vv cv G,NodeAs W G (Z0c (d+1) t) kv vv cv→Calls Tryz.prog 188 #[.agg #[.bool false,kv,vv,cv],.string k] W fun e w'=>e= .returned (.int .i64 (Z0g (InT.keys t) k))∧Ext W w'):=fun W kv vv cv G q=>Y2j k W q hok.1 (by rw[hkeys];omega)
 have HLAW:Hid (∀S1 c' o,PutR d S c k v S1 c' o→∃F1,PutL d S c k v S1 c' o F1):=fun S1 c' o q=>Z4z d q hf (hon.2 c hcm) (hok.2.2.2.1 c hcm) hk hv ((Z1c hnd).1 c hcm).2
 have HNONE:Hid (∀S1 c',PutR d S c k v S1 c' none→PutR (d+1) S t k v S1 (InT.mk (InT.at_ t) (InT.keys t) ((InT.kids t).set (Z0g (InT.keys t) k) c')) none):=fun S1 c' q=>⟨c,hc,S1,c',none,q,rfl,rfl,rfl⟩
 have HSOME:Hid (∀S1 c' mid r,PutR d S c k v S1 c' (some (mid,r))→∃L:TT (d+1),2≤atT d r∧InT.at_ L=InT.at_ t∧NodeD.mk (Z0c (d+1) t).leaf (insL (Z0c (d+1) t).keys (Z0g (InT.keys t) k) mid) (Z0c (d+1) t).vals (insL (Z0c (d+1) t).kids (Z0g (InT.keys t) k+1) (atT d r:Int))=Z0c (d+1) L∧X5f tr p i (InT.at_ t) S1 (Z0c (d+1) L) (CutQ S1 (InT.at_ t) (Z0c (d+1) L))∧
   ∀mid' right' S',CutQ S1 (InT.at_ t) (Z0c (d+1) L) mid' right' S'→∃t' o,PutR (d+1) S t k v S' t' o∧midO (d+1) o=mid'∧Y2v (d+1) o=right'):=fun S1 c' mid r q=>by
  obtain⟨F1,hl⟩:=HLAW.out S1 c' _ q
  obtain⟨L,hL,g1,g2,g3,g4,g5,g6,g7,g8,g9⟩:=Y8s hf hon hok hk hnd hc hl
  have hLa:InT.at_ L=InT.at_ t:=by rw[hL]
  have hf1:=hf.stp hl.stp (fun b q=>by cases q)
  have hroom:=X3g hl.stp hl.nd (fun b hb=>⟨(hl.fresh b hb).1,(hl.fresh b hb).2.2⟩)
  have hlen:=hl.len
  refine⟨L,(Z0k d r (hl.right mid r rfl).on _ (Z0q d r)).1,hLa,?_,?_,fun mid' right' S' hq=> ?_⟩
  ·rw[hL];exact V5u hc hl.at_
  ·have:=V3g (t:=tr) (p:=p) (i:=i) (InT.at_ L) (Z0c (d+1) L) g1 hf1 g3 (by omega)
   rw[hLa]at this
   exact this
  ·rw[←hLa]at hq
   obtain⟨t',o,r1,r2,r3⟩:=U0x (S:=S) hq
   refine⟨t',o,⟨c,hc,S1,c',some (mid,r),q,?_⟩,r2,r3⟩
   show V3v d S1 (InT.mk (InT.at_ t) (insL (InT.keys t) (Z0g (InT.keys t) k) mid) (insL ((InT.kids t).set (Z0g (InT.keys t) k) c') (Z0g (InT.keys t) k+1) r)) S' t' o
   rw[←hL];exact r1
 have HIH:Hid (∀(F:Nat→Prop) (w:World),Z0b w tr p i→¬F tr→PagerAt w p F S→Calls Tryz.prog 180 #[.pointer (some ⟨tr,0,none⟩),.int .i64 (atT d c),.int .i64 D,.string k,.string v] w (Z8t d p F S c k v w)):=fun F w q1 q2 q3=>hIH F w c hcm q1 q2 q3
 have HT:=hD ht
 have HNT:=hD hnt
 have hlt:=ht.lt
 have hleaf:(Z0c (d+1) t).leaf=false:=rfl
 have HLF:=hD hleaf
 rw[hleaf]at cL
 generalize hnode:Z0c (d+1) t=n at *
 generalize hpos:Z0g (InT.keys t) k=j at *
 generalize hata:InT.at_ t=a at *
 generalize hatc:atT d c=ac at *
 obtain⟨dv,hdv⟩:∃dv:Nat,D+1=dv:=⟨_,rfl⟩
 rw[hdv]
 have T0:decide ((dv:Int)=0)=false:=decide_eq_false (by omega)
 have T1:(dv:Int)-1=(D:Int):=by omega
 have T2:dv≤1001:=by omega
 have T3:((dv:Int)==0)=false:=by simp;omega
 have T4:0<dv:=by omega
 have HT1:=hD T1
 clear ht hnt h hf hon hok hk hv hr hnd hIH hkeys hpg hkl hj hmany hc hcm hleaf hnode hpos hata hatc hdv HLAW jH T1
 go_enter Tryz.func180,Tryz.ntmps180
 go_upto_region 14 with (first
  | (go_at_call 186;(with_reducible refine cL.mono ?_);clear cL;rintro e w1 ⟨kA,kn,kc,vA,vn,vc,cA,cn,cc,B,F1,rfl,hn1,hp1,hk1,hB,hF1,hBW⟩
     have cD:=HDN.out (w1.alloc (.cells #[.bool false,.slice kA kn kc,.slice vA vn vc,.slice cA cn cc] 257)) _ _ _ _ (hn1.ext (Ext.alloc _ _))
     have HR1:Hid (Z0b w1 tr p i):=hD (hk1.only.row HT.out HNT.out)
     have HNT1:Hid (¬F1 tr):=hk1.out hlt HNT.out
     have HTB:Hid (¬B≤tr):=by have h8:=Nat.lt_of_lt_of_le hlt hB;intro e;omega
     have hb1:BoxG w1 (w1.alloc (.cells #[.bool false,.slice kA kn kc,.slice vA vn vc,.slice cA cn cc] 257)) (fun j=>B≤j) w1.heap.size n (.slice kA kn kc) (.slice vA vn vc) (.slice cA cn cc):=by
      have q:=BoxG.made hn1 (fun j q=>Nat.le_trans hBW q)
      rw[HLF.out]at q;exact q
     have HB1:=hD hb1
     have d0:(w1.alloc (.cells #[.bool false,.slice kA kn kc,.slice vA vn vc,.slice cA cn cc] 257)).cell? ⟨w1.heap.size,0,none⟩=some (.bool false):=(Row1.made w1 _ [.bool false,.slice kA kn kc,.slice vA vn vc,.slice cA cn cc]).cell 0
     have HP1:=hD hp1;have HK1:=hD hk1;have HB:=hD hB;have HF1:=hD hF1
     clear hn1 hp1 hk1 hB hF1 hBW hb1)
  | (go_at_call 188;(with_reducible refine cD.mono ?_);clear cD;rintro e w2 ⟨rfl,hb2⟩
     have HB2:=hD (HB1.out.ext hb2)
     have HX2:Hid (Ext w1 w2):=Ext.trans (Ext.alloc _ _) hb2
     clear hb2 d0))
 obtain⟨g,c9,hcv,hg,hgc⟩:=Z6f HB2.out.own.kids j HKL.out
 rw[HKID.out]at hgc
 injection hcv with e1 e2 e3
 subst e1 e2 e3
 have q4:j<n.kids.length:=HKL.out
 have q5:(j:Int)<(n.kids.length:Int):=by omega
 have x3:w2.cell? ⟨w1.heap.size,3,none⟩=some (.slice (some ⟨g,0,none⟩) n.kids.length cc):=HB2.out.row.cell 3
 have cP:=HIH.out F1 w2 (HR1.out.ext HX2.out HR1.out.lt) HNT1.out (HP1.out.ext HX2.out)
 rw[←HT1.out]at cP
 have HG:=hD hg
 clear hg
 go_upto_region 15 with (first
  | (go_at_call 180;(with_reducible refine cP.mono ?_);clear cP;rintro e w3 ⟨S1,c',o,rfl,hput,F3,hp3,hk3⟩
     have HPUT:=hD hput
     have hcall:=HB2.out.call hk3 (fun i q q'=>by have h8:=HF1.out i q;have h9:B≤i:=q';omega)
     have HB3:=hD hcall.1
     have HF3:=hD hcall.2
     have hk2:Keeps F F1 w w2:=HK1.out.ext HX2.out
     have HK3:Hid (Keeps F F3 w w3):=Keeps.trans hk2 hk3
     have HP3:=hD hp3.shrink
     have HS23:=hD hk3.only.size
     have HTG:Hid (¬((B≤tr∧tr<w2.heap.size)∨w3.heap.size≤tr)):=fun q=>by have h8:=HTB.out;have h9:=HS23.out;have h7:=HX2.out.size;have h6:=HR1.out.lt;omega
     have HR3:Hid (Z0b w3 tr p i):=hk3.only.row (HR1.out.ext HX2.out HR1.out.lt) HNT1.out
     have HNT3:Hid (¬F3 tr):=hk3.out (Nat.lt_of_lt_of_le HR1.out.lt HX2.out.size) HNT1.out
     clear hput hp3 hk3 hk2 x3 hgc hcall))
 cases o with
 | none=>
   have m0:midO d (none:Option (ByteArray×TT d))=⟨#[]⟩:=rfl
   have r0:Y2v d (none:Option (ByteArray×TT d))=0:=rfl
   rw[m0,r0]
   go_wp2_with fail
   go_ret3
   exact⟨S1,_,none,rfl,HNONE.out _ _ HPUT.out,F3,(show PagerAt w3 p F3 S1 from HP3.out.mono (fun i q=>q.1)),HK3.out⟩
 | some x=>
   obtain⟨mid,r⟩:=x
   have m0:midO d (some (mid,r))=mid:=rfl
   have r0:Y2v d (some (mid,r))=atT d r:=rfl
   rw[m0,r0]
   obtain⟨L,hr2,hLa,hnode,hcuts,hfin⟩:=HSOME.out _ _ _ _ HPUT.out
   obtain⟨ar,har⟩:∃ar,atT d r=ar:=⟨_,rfl⟩
   rw[har]at hr2 hnode ⊢
   have T5:((ar:Int)==0)=false:=by simp;omega
   have T6:decide ((ar:Int)=0)=false:=decide_eq_false (by omega)
   have HNODE:=hD hnode
   have HCUTS:=hD hcuts
   have HFIN:=hD hfin
   have x1:w3.cell? ⟨w1.heap.size,1,none⟩=some (.slice kA kn kc):=HB3.out.row.cell 1
   have q6:(j:Int)+1=((j+1:Nat):Int):=by omega
   have HQ6:=hD q6
   have hjb:j≤255:=by have:=HDK.out;have:=HMANY.out;omega
   have cI:=Y7s mid w3.heap.size j (w3.alloc (.cells #[.string mid] 9)) (HB3.out.own.keys.alloc _) HDK.out (Row1.made w3 _ [.string mid]) (fun q=>by have:=(HB3.out.own.keys.lt _ q).2;omega) (by have:=HMANY.out;omega)
   have HB3a:=hD (HB3.out.ext (Ext.alloc w3 (.cells #[.string mid] 9)))
   clear hLa hnode hcuts hfin har m0 r0 q6
   go_wp2_with (first
    | (go_at_call 220;(with_reducible refine cI.mono ?_);clear cI;rintro e w4 ⟨kv',rfl,h1,h2,h3⟩
       obtain⟨kA',kn',kc',rfl⟩:∃kA kn kc,kv'= .slice kA kn kc:=let ⟨A,c,q⟩:=OwnL.form h1;⟨A,_,c,q⟩
       have hb4:=HB3a.out.setK h1 h2 h3
       have hr4:=HB3a.out.rowK h3
       have e1:w4.cell? ⟨w1.heap.size,1,none⟩=some (.slice kA kn kc):=hr4.cell 1
       have e2:w4.cell? ⟨w1.heap.size,3,none⟩=some (.slice (some ⟨g,0,none⟩) n.kids.length cc):=hr4.cell 3
       have e3:w4.frozen? ⟨w1.heap.size,1,none⟩=false:=hr4.soft 1
       have cJ:=V6o (ar:Int) (w4.setCell ⟨w1.heap.size,1,none⟩ (.slice kA' kn' kc')).heap.size (j+1) ((w4.setCell ⟨w1.heap.size,1,none⟩ (.slice kA' kn' kc')).alloc (.cells #[.int .i64 ar] 3)) (hb4.own.kids.alloc _) (by show j+1≤n.kids.length;omega) (Row1.made _ _ [.int .i64 ar]) (fun q=>by have:=(hb4.own.kids.lt _ q).2;omega) (by show n.kids.length≤100000;have:=HMANY.out;have:=HCL.out;omega)
       rw[Z1y,←HQ6.out]at cJ
       have HB4:=hD (hb4.ext (Ext.alloc _ (.cells #[.int .i64 ar] 3)))
       clear hb4 hr4 h1 h2 h3)
    | (go_at_call 222;(with_reducible refine cJ.mono ?_);clear cJ;rintro e w7 ⟨cv',rfl,h1,h2,h3⟩
       obtain⟨cA',cn',cc',rfl⟩:∃kA kn kc,cv'= .slice kA kn kc:=let ⟨A,c,q⟩:=OwnL.form h1;⟨A,_,c,q⟩
       have hb7:=HB4.out.setC h1 h2 h3
       have hr7:=HB4.out.rowC h3
       have g0:w7.cell? ⟨w1.heap.size,0,none⟩=some (.bool false):=by rw[hr7.cell];show some (Value.bool n.leaf)=_;rw[HLF.out]
       have g1:w7.cell? ⟨w1.heap.size,1,none⟩=some (.slice kA' kn' kc'):=hr7.cell 1
       have g2:w7.cell? ⟨w1.heap.size,2,none⟩=some (.slice vA vn vc):=hr7.cell 2
       have g3:w7.cell? ⟨w1.heap.size,3,none⟩=some (.slice (some ⟨g,0,none⟩) n.kids.length cc):=hr7.cell 3
       have g4:w7.frozen? ⟨w1.heap.size,3,none⟩=false:=hr7.soft 3
       have hown:NodeAs (w7.setCell ⟨w1.heap.size,3,none⟩ (.slice cA' cn' cc')) (fun j=>(B≤j∧j<w2.heap.size)∨w3.heap.size≤j) (NodeD.mk n.leaf (insL n.keys j mid) n.vals (insL n.kids (j+1) (ar:Int))) (.slice kA' kn' kc') (.slice vA vn vc) (.slice cA' cn' cc'):=hb7.own
       rw[HNODE.out]at hown
       have cC:=HCUTS.out (w7.setCell ⟨w1.heap.size,3,none⟩ (.slice cA' cn' cc')) (fun i=>F3 i∧i<w3.heap.size) _ _ _ _ (hb7.only.row HR3.out HTG.out) (fun q=>HNT3.out q.1) (HP3.out.only hb7.only (fun j q q'=>HF3.out j q.1 q.2 q')) hown (fun j q q'=>HF3.out j q.1 q.2 q')
       rw[show (Z0c (d+1) L).leaf=false from rfl]at cC
       have HB7:=hD hb7.only
       clear hb7 hr7 h1 h2 h3 hown)
    | (go_at_call 221;(with_reducible refine cC.mono ?_);clear cC;rintro e w8 ⟨mid',right',S4,rfl,hcr,F4,hp4,hk4⟩;have HCR:=hD hcr;have HP4:=hD hp4;have HK4:=hD hk4;clear hcr hp4 hk4))
   go_ret3
   obtain⟨t',o',r1,rfl,rfl⟩:=HFIN.out _ _ _ HCR.out
   refine⟨S4,t',o',rfl,r1,F4,HP4.out,?_⟩
   refine Keeps.trans ((HK3.out.shrink (P:=fun i=>i<w3.heap.size)).side HB7.out (fun j q=> ?_)) HK4.out
   have h1:=HK1.out.only.size
   have h2:=HX2.out.size
   have h3:=HS23.out
   have h4:=HB.out
   rcases q with q | q
   ·have:=q.1;omega
   ·omega
theorem V5b{tr p i:Nat}(k v:ByteArray)(hk:Z3g k)(hv:v.size≤80)(d:Nat):∀ {F:Nat→Prop} {S:StoreD} (D:Nat) (t:TT d) (w:World),Z0b w tr p i→¬F tr→PagerAt w p F S→Fm S→onT S d t→okT d t→d+1≤Z0z S→(Z0a d t).Nodup→d<D→D≤1000→
  Calls Tryz.prog 180 #[.pointer (some ⟨tr,0,none⟩),.int .i64 (atT d t),.int .i64 D,.string k,.string v] w (Z8t d p F S t k v w):=by
 induction d with
 | zero=>
   intro F S D t w ht hnt h hf hon hok hr hnd hd jH
   exact V4z D t k v w ht hnt h hf hon hok hk hv hr hd
 | succ d ih=>
   intro F S D t w ht hnt h hf hon hok hr hnd hd jH
   obtain⟨D',rfl⟩:∃D',D=D'+1:=⟨D-1,by omega⟩
   exact X9q D' t k v w ht hnt h hf hon hok hk hv (by omega) hnd (by omega) (fun F w c hc q1 q2 q3=>ih D' c w q1 q2 q3 hf (hon.2 c hc) (hok.2.2.2.1 c hc) (by omega) ((Z1c hnd).1 c hc).2 (by omega) (by omega))
theorem X3c{S:StoreD}:∀(d:Nat) (t:TT d),onT S d t→okT d t→V8b S d (atT d t)
 | 0,t,h,_=>⟨_,h,rfl⟩
 | d+1,t,h,hok=>by
   refine⟨_,h.1,rfl,?_⟩
   have hl:0<(InT.kids t).length:=by have:=hok.2.1;omega
   have e:((Z0c (d+1) t).kids[0]?.getD 0)=(atT d (InT.kids t)[0]:Int):=by
    show(((InT.kids t).map fun c=>(atT d c:Int))[0]?).getD 0=_
    rw[List.getElem?_map,List.getElem?_eq_getElem hl];rfl
   rw[e,Int.toNat_natCast]
   exact X3c d _ (h.2 _ (List.getElem_mem hl)) (hok.2.2.2.1 _ (List.getElem_mem hl))
def Z8j(mid:ByteArray)(a r:Nat):NodeD:=⟨false,[mid],[],[(a:Int),(r:Int)]⟩
theorem V5w(w:World)(mid:ByteArray)(a r:Nat):NodeAs ((w.alloc (.cells #[.string mid] 9)).alloc (.cells #[.int .i64 a,.int .i64 r] 3)) (fun i=>w.heap.size≤i) (Z8j mid a r) (.slice (some ⟨w.heap.size,0,none⟩) 1 1) (.slice none 0 0) (.slice (some ⟨w.heap.size+1,0,none⟩) 2 2):=by
 have h1:Row1 ((w.alloc (.cells #[.string mid] 9)).alloc (.cells #[.int .i64 a,.int .i64 r] 3)) w.heap.size 9 (([mid].flatMap encS)++ []):=Row1.alloc (Row1.made w _ [.string mid]) _
 have h2:Row1 ((w.alloc (.cells #[.string mid] 9)).alloc (.cells #[.int .i64 a,.int .i64 r] 3)) (w.heap.size+1) 3 (([(a:Int),(r:Int)].flatMap encN)++ []):=Row1.made' (by simp) _ [.int .i64 a,.int .i64 r]
 refine⟨OwnL.ofRow (k:=1) h1 (Nat.zero_le _) (Nat.le_refl 1) (by decide) rfl Z0d,OwnL.nil _ _ _ _ _,OwnL.ofRow (k:=1) h2 (Nat.zero_le _) (Nat.le_refl 2) (by decide) rfl Z0j,fun b q q'=>(by cases q'),fun b q=> ?_,fun b q=> ?_,fun b q=> ?_⟩
 ·have e1:w.heap.size=b:=Option.some.inj q
  omega
 ·cases q
 ·have e2:w.heap.size+1=b:=Option.some.inj q
  omega
theorem V5v{mid:ByteArray}{a r:Nat}(hm:mid.size≤32)(ha:a<65536)(hr:r<65536):NodeOk (Z8j mid a r)∧Z0m (Z8j mid a r)≤256:=by
 refine⟨⟨fun x hx=> ?_,fun x hx=>by simp[Z8j]at hx,fun c hc=> ?_,by simp[Z8j],(fun q=>by cases q),fun _=>⟨rfl,rfl⟩⟩,by simp[Z0m,Z0n,Z8j];omega⟩
 ·simp only[Z8j,List.mem_singleton]at hx;subst hx;omega
 ·simp only[Z8j,List.mem_cons,List.not_mem_nil,or_false]at hc
  rcases hc with rfl | rfl<;>exact⟨by omega,by omega⟩
theorem V4d{tr p i d:Nat}{F:Nat→Prop}{S:StoreD}(t:TT d)(k v:ByteArray)(w:World)(ht:Z0b w tr p i)(hnt:¬F tr)(h:PagerAt w p F S)(hi:i<16)(hf:Fm S)(hroot:Z1v S i=atT d t)(hon:onT S d t)(hok:okT d t)(hnd:(Z0a d t).Nodup)(hk:Z3g k)(hv:v.size≤80)(hroom:d+2≤Z0z S)(hd:d<32):
  Calls Tryz.prog 119 #[.pointer (some ⟨tr,0,none⟩),.string k,.string v] w fun e w'=>e= .returned (.int .i64 0)∧∃S' T',Y1u S i k v S' T' (.yes d t)∧∃F',PagerAt w' p F' S'∧Keeps F F' w w':=by
 have cR:=Z3w w ht hnt h hi
 rw[hroot]at cR
 have ha:2≤atT d t:=(Z0k d t hon _ (Z0q d t)).1
 have HRO:Hid (∀W F1,Z0b W tr p i→¬F1 tr→PagerAt W p F1 S→Calls Tryz.prog 179 #[.pointer (some ⟨tr,0,none⟩),.int .i64 (atT d t)] W fun e w'=>e= .returned (.int .i64 0)∧∃F',PagerAt w' p F' S∧Keeps F1 F' W w'):=fun W F1 q1 q2 q3=>by
  have q:=V4t (atT d t) d W q1 q2 q3 (X3c d t hon hok) hd
  rw[V9f,if_neg (by omega)]at q
  exact q
 have HPU:Hid (∀W F1,Z0b W tr p i→¬F1 tr→PagerAt W p F1 S→Calls Tryz.prog 180 #[.pointer (some ⟨tr,0,none⟩),.int .i64 (atT d t),.int .i64 32,.string k,.string v] W (Z8t d p F1 S t k v W)):=fun W F1 q1 q2 q3=>
  V5b k v hk hv d 32 t W q1 q2 q3 hf hon hok (by omega) hnd hd (by decide)
 have HSOME:Hid (∀S1 t' mid r,PutR d S t k v S1 t' (some (mid,r))→∃top,lowS S1=some top∧atT d t'=atT d t∧2≤atT d r∧Z0r (Z1e S1 top) top∧Z0r (layP (Z1e S1 top) top (Z8j mid (atT d t) (atT d r))) top∧NodeOk (Z8j mid (atT d t) (atT d r))∧Z0m (Z8j mid (atT d t) (atT d r))≤256):=fun S1 t' mid r q=>by
  obtain⟨F1,hl⟩:=Z4z d q hf hon hok hk hv hnd
  have hf1:=hf.stp hl.stp (fun b q=>by cases q)
  have hro:=X3g hl.stp hl.nd (fun b hb=>⟨(hl.fresh b hb).1,(hl.fresh b hb).2.2⟩)
  have hlen:=hl.len
  obtain⟨top,htop⟩:=Y7n hf1 (by omega)
  obtain⟨r1,r2,r3⟩:=Z4q htop
  have hm1:=hf1.most
  have hR:=hl.right mid r rfl
  have gr:=Z0k d r hR.on _ (Z0q d r)
  have ga:=Z0k d t' hl.on _ (Z0q d t')
  rw[hl.at_]at ga
  have hmk:=(Y7q hok hk mid hR.key).2
  obtain⟨n1,n2⟩:=V5v (a:=atT d t) (r:=atT d r) hmk (by have:=ga.2.1;omega) (by have:=gr.2.1;omega)
  have t1:=Z6q hf1.full r1 (by omega:top<2048)
  have g1:Z0r (Z1e S1 top) top:=t1.givenF r1 r2 (by simp) (by simp)
  exact⟨top,htop,hl.at_,gr.1,g1,(Z5c t1.full r1 n1 n2).given g1 (by simp),n1,n2⟩
 have HNONE:Hid (∀S1 t',PutR d S t k v S1 t' none→Y1u S i k v S1 (.yes d t') (.yes d t)):=fun S1 t' q=>⟨S1,t',none,q,rfl,rfl⟩
 have HYES:Hid (∀S1 t' mid r top,PutR d S t k v S1 t' (some (mid,r))→lowS S1=some top→atT d t'=atT d t→Y1u S i k v (Z0o (layP (Z1e S1 top) top (Z8j mid (atT d t) (atT d r))) i top) (.yes (d+1) (InT.mk top [mid] [t',r])) (.yes d t)):=fun S1 t' mid r top q1 q2 q3=>by
  refine⟨S1,t',some (mid,r),q1,top,q2,?_,rfl⟩
  rw[q3];rfl
 have hkk:¬k.toList= []:=X3a hk.1
 have hke:k.toList.isEmpty=false:=by cases h9:k.toList with | nil=>exact absurd h9 hkk | cons _ _=>rfl
 have hk2:=hk.2
 have hkd:decide ((32:Int)<(k.size:Int))=false:=decide_eq_false (by omega)
 have hvd:decide ((80:Int)<(v.size:Int))=false:=decide_eq_false (by omega)
 have hkd':decide ((32:Nat)<k.size)=false:=decide_eq_false (by omega)
 have hvd':decide ((80:Nat)<v.size)=false:=decide_eq_false (by omega)
 obtain⟨a,hat⟩:∃a,atT d t=a:=⟨_,rfl⟩
 rw[hat]at cR ha HRO HPU HSOME HYES
 have ha0:decide ((a:Int)=0)=false:=decide_eq_false (by omega)
 have ha1:((a:Int)==0)=false:=by simp;omega
 have HT:=hD ht
 have HNT:=hD hnt
 have HTL:=hD ht.lt
 have HI:=hD hi
 clear ht hnt h hroot hk hv hi hd hroom hf hon hok hnd hat hk2
 go_enter Tryz.func119,Tryz.ntmps119
 go_upto_region 20 with (first
  | (go_at_call 132;(with_reducible refine cR.mono ?_);clear cR;rintro e w1 ⟨rfl,F1,hp1,hk1⟩
     have hr1:Z0b w1 tr p i:=hk1.only.row HT.out HNT.out
     have hn1:¬F1 tr:=hk1.out HTL.out HNT.out
     have cO:=HRO.out w1 F1 hr1 hn1 hp1
     have HR1:=hD hr1;have HN1:=hD hn1;have HK1:=hD hk1
     clear hp1 hk1 hr1 hn1)
  | (go_at_call 179;(with_reducible refine cO.mono ?_);clear cO;rintro e w2 ⟨rfl,F2,hp2,hk2⟩
     have hr2:Z0b w2 tr p i:=hk2.only.row HR1.out HN1.out
     have hn2:¬F2 tr:=hk2.out HR1.out.lt HN1.out
     have cP:=HPU.out w2 F2 hr2 hn2 hp2
     have HR2:=hD hr2;have HN2:=hD hn2
     have HK2:Hid (Keeps F F2 w w2):=Keeps.trans HK1.out hk2
     clear hp2 hk2 hr2 hn2)
  | (go_at_call 180;(with_reducible refine cP.mono ?_);clear cP;rintro e w3 ⟨S1,t',o,rfl,hput,F3,hp3,hk3⟩
     have HPUT:=hD hput;have HP3:=hD hp3;have HK3:Hid (Keeps F F3 w w3):=Keeps.trans HK2.out hk3
     have HR3:Hid (Z0b w3 tr p i):=hk3.only.row HR2.out HN2.out
     have HN3:Hid (¬F3 tr):=hk3.out HR2.out.lt HN2.out
     clear hput hp3 hk3))
 cases o with
 | none=>
   have m0:midO d (none:Option (ByteArray×TT d))=⟨#[]⟩:=rfl
   have r0:Y2v d (none:Option (ByteArray×TT d))=0:=rfl
   rw[m0,r0]
   go_wp2_with fail
   go_ret
   exact⟨rfl,S1,_,HNONE.out _ _ HPUT.out,F3,HP3.out,HK3.out⟩
 | some x=>
   obtain⟨mid,r⟩:=x
   have m0:midO d (some (mid,r))=mid:=rfl
   have r0:Y2v d (some (mid,r))=atT d r:=rfl
   rw[m0,r0]
   obtain⟨top,htop,hta,hr2,hg1,hg2,hn1,hn2⟩:=HSOME.out _ _ _ _ HPUT.out
   have HFIN:=hD (HYES.out _ _ _ _ _ HPUT.out htop hta)
   obtain⟨ar,har⟩:∃ar,atT d r=ar:=⟨_,rfl⟩
   rw[har]at hr2 hg2 hn1 hn2 HFIN ⊢
   have T5:((ar:Int)==0)=false:=by simp;omega
   have T6:decide ((ar:Int)=0)=false:=decide_eq_false (by omega)
   have cA:=Y0n top w3 HP3.out htop
   have x0:w3.cell? ⟨tr,0,none⟩=some (.pointer (some ⟨p,0,none⟩)):=HR3.out.cell 0
   have HGV:=hD hg2
   have HLAY:Hid (∀W F2,Z0b W tr p i→¬F2 tr→PagerAt W p F2 (Z1e S1 top)→Calls Tryz.prog 177 #[.pointer (some ⟨tr,0,none⟩),.int .i64 top,.agg #[.bool false,.slice (some ⟨W.heap.size,0,none⟩) 1 1,.slice none 0 0,.slice (some ⟨W.heap.size+1,0,none⟩) 2 2]] ((W.alloc (.cells #[.string mid] 9)).alloc (.cells #[.int .i64 a,.int .i64 ar] 3)) fun e w'=>e= .returned (.int .i64 0)∧∃F',PagerAt w' p F' (layP (Z1e S1 top) top (Z8j mid a ar))∧Keeps F2 F' ((W.alloc (.cells #[.string mid] 9)).alloc (.cells #[.int .i64 a,.int .i64 ar] 3)) w'):=fun W F2 q1 q2 q3=>
    Y0s top (Z8j mid a ar) _ (Row1.alloc (Row1.alloc q1 _) _) q2 (q3.ext (Ext.trans (Ext.alloc _ _) (Ext.alloc _ _))) hg1 hn1 hn2 (V5w W mid a ar)
   clear htop hta hr2 hg1 hg2 hn1 hn2 har m0 r0
   go_upto_region 28 with (first
    | (go_at_call 176;(with_reducible refine cA.mono ?_);clear cA;rintro e w4 ⟨rfl,F4,hp4,hk4⟩
       have hr4:Z0b w4 tr p i:=hk4.only.row HR3.out HN3.out
       have hn4:¬F4 tr:=hk4.out HR3.out.lt HN3.out
       have HR4:=hD hr4;have HN4:=hD hn4;have HP4:=hD hp4;have HK4:Hid (Keeps F F4 w w4):=Keeps.trans HK3.out hk4
       clear hp4 hk4 hr4 hn4)
    | (go_at_call 177;(with_reducible refine(HLAY.out w4 F4 HR4.out HN4.out HP4.out).mono ?_);clear HLAY;rintro e w5 ⟨rfl,F5,hp5,hk5⟩
       have hx:Ext w4 ((w4.alloc (.cells #[.string mid] 9)).alloc (.cells #[.int .i64 a,.int .i64 ar] 3)):=Ext.trans (Ext.alloc _ _) (Ext.alloc _ _)
       have hk45:Keeps F4 F5 w4 w5:=Keeps.trans (Keeps.of hx) hk5
       have hr5:Z0b w5 tr p i:=hk45.only.row HR4.out HN4.out
       have HR5:=hD hr5;have HN5:Hid (¬F5 tr):=hk45.out HR4.out.lt HN4.out
       have HP5:=hD hp5;have HK5:Hid (Keeps F F5 w w5):=Keeps.trans HK4.out hk45
       clear hx hk45 hr5 hp5 hk5))
   have HC:Hid (∀W,Ext w5 W→W.cell? ⟨tr,0,none⟩=some (.pointer (some ⟨p,0,none⟩))∧W.cell? ⟨tr,1,none⟩=some (.int .i64 i)):=fun W hW=>⟨(HR5.out.ext hW HR5.out.lt).cell 0,(HR5.out.ext hW HR5.out.lt).cell 1⟩
   have cT:Hid (∀W,Ext w5 W→Calls Tryz.prog 178 #[.pointer (some ⟨p,0,none⟩),.int .i64 i,.int .i64 top] W fun e w'=>e= .returned (.int .i64 0)∧∃F',PagerAt w' p F' (Z0o (layP (Z1e S1 top) top (Z8j mid a ar)) i top)∧Keeps F5 F' W w'):=fun W hW=>Z5v i top W (HP5.out.ext hW) HI.out (.inr HGV.out)
   refine wp_region_held_drew (S:=fun W=>W.cell? ⟨tr,0,none⟩=some (.pointer (some ⟨p,0,none⟩))∧W.cell? ⟨tr,1,none⟩=some (.int .i64 i)) (by kernel_rfl) (HC.out _ (by exact Xt)) (fun hHeld=> ?_)
   refine' tk 0 ?_
   refine' tk 1 ?_
   refine' tk 2 ?_
   refine' tk 3 ?_
   refine' tk 4 ?_
   refine' tk 5 ?_
   refine' tk 6 ?_
   refine' tk 7 ?_
   refine' tk 8 ?_
   refine stp 9 (fun K hK=> ?_);go_simp
   (with_reducible refine(cT.out _ ?_).mono ?_)
   ·exact Xt
   rintro e w6 ⟨rfl,F6,hp6,hk6⟩
   have hk56:Keeps F5 F6 w5 w6:=Keeps.trans (Keeps.of (by exact Xt)) hk6
   have hr6:Z0b w6 tr p i:=hk56.only.row HR5.out HN5.out
   have HC9:Hid (w6.cell? ⟨tr,0,none⟩=some (.pointer (some ⟨p,0,none⟩))∧w6.cell? ⟨tr,1,none⟩=some (.int .i64 i)):=⟨hr6.cell 0,hr6.cell 1⟩
   have HP6:=hD hp6
   have HK6:Hid (Keeps F F6 w w6):=Keeps.trans HK5.out hk56
   clear hp6 hk6 hk56 hr6
   (try dsimp only)
   (try go_simp)
   refine hK.out _ _ (HC9.out) (fun hHeld=> ?_)
   clear hK K
   refine pt ?_
   refine' tk 10 ?_
   refine wpAnyH_done (by kernel_rfl) ?_ _
   go_wp2_with fail
   go_ret
   exact⟨rfl,_,_,HFIN.out,F6,HP6.out,HK6.out⟩
theorem X2x{tr p i:Nat}{F:Nat→Prop}{S:StoreD}(T:TrD)(k v:ByteArray)(w:World)(ht:Z0b w tr p i)(hnt:¬F tr)(h:PagerAt w p F S)(hi:i<16)(hf:Fm S)(hT:TrS S i T)(hk:Z3g k)(hv:v.size≤80)(hroom:T.need≤Z0z S)(hd:T.fine):
  Calls Tryz.prog 119 #[.pointer (some ⟨tr,0,none⟩),.string k,.string v] w fun e w'=>e= .returned (.int .i64 0)∧∃S' T',Y1u S i k v S' T' T∧∃F',PagerAt w' p F' S'∧Keeps F F' w w':=by
 cases T with
 | no=>
   obtain⟨a,ha⟩:=Y7n hf (by have:TrD.need .no=1:=rfl;omega)
   refine(V4y a k v w ht hnt h hi hT ha hk.1 hk.2 hv).mono ?_
   rintro e w' ⟨rfl,q⟩
   exact⟨rfl,_,_,⟨a,ha,rfl,rfl⟩,q⟩
 | yes d t=>exact V4d t k v w ht hnt h hi hf hT.1 hT.2.1 hT.2.2.1 hT.2.2.2 hk hv hroom (by have:d<31:=hd;omega)
theorem X9k(ts:Nat→Nat)(w:World):Sem.run Tryz.prog (Instr.index 117 (.agg #[tp (ts 0),tp (ts 1),tp (ts 2),tp (ts 3),tp (ts 4)]) (.int .i64 0)) w= .ok (tp (ts 0)) w:=by kernel_rfl
theorem X9j(ts:Nat→Nat)(w:World):Sem.run Tryz.prog (Instr.index 117 (.agg #[tp (ts 0),tp (ts 1),tp (ts 2),tp (ts 3),tp (ts 4)]) (.int .i64 1)) w= .ok (tp (ts 1)) w:=by kernel_rfl
theorem X9i(ts:Nat→Nat)(w:World):Sem.run Tryz.prog (Instr.index 117 (.agg #[tp (ts 0),tp (ts 1),tp (ts 2),tp (ts 3),tp (ts 4)]) (.int .i64 2)) w= .ok (tp (ts 2)) w:=by kernel_rfl
theorem X9h(ts:Nat→Nat)(w:World):Sem.run Tryz.prog (Instr.index 117 (.agg #[tp (ts 0),tp (ts 1),tp (ts 2),tp (ts 3),tp (ts 4)]) (.int .i64 3)) w= .ok (tp (ts 3)) w:=by kernel_rfl
theorem X9g(ts:Nat→Nat)(w:World):Sem.run Tryz.prog (Instr.index 117 (.agg #[tp (ts 0),tp (ts 1),tp (ts 2),tp (ts 3),tp (ts 4)]) (.int .i64 4)) w= .ok (tp (ts 4)) w:=by kernel_rfl
theorem X8t{tb p:Nat}{ts:Nat→Nat}{F:Nat→Prop}{S0 S:StoreD}{Ts0:Nat→TrD}{L:Nat→List OpD}(o:OpD)(w:World)(ht:TblAt w tb p ts F)(hp:PagerAt w p F S0)(ho:Z2e o=0)
 (hdel:∀(W:World) (F1:Nat→Prop),TblAt W tb p ts F1→PagerAt W p F1 S0→Calls Tryz.prog 59 #[.pointer (some ⟨tb,0,none⟩),.int .i64 o.id] W fun e w'=>∃ev,(ev=0∨ev=6)∧e= .returned (.int .i64 ev)∧∃F',TblAt w' tb p ts F'∧PagerAt w' p F' S∧Keeps F1 F' W w')
 (hT:Tab S Ts0 L)(hno:∀i,i<5→∀x∈L i,x.id≠o.id)(hd:∀i,i<5→depT (Ts0 i)≤31)(hroom:Z4p Ts0 5≤Z0z S):
  Calls Tryz.prog 55 #[.pointer (some ⟨tb,0,none⟩),o.val] w fun e w'=>e= .returned (.int .i64 0)∧∃S' Ts' F',PutK tb p ts Ts0 L o (Z0z S) F w 5 w' S' Ts' F':=by
 have hin:=OpIn.of ho
 have HOK:=hD ho
 obtain⟨W0,hW0⟩:∃W0,w.alloc (.cells #[.int .i64 o.id,.int .i64 o.proc,.int .i64 o.object,.int .i64 o.kind,.int .i64 o.method,.int .i64 o.arg,.int .i64 o.second,.bool o.done,.int .i64 o.result,.int .i64 o.invoke,.int .i64 o.ret] 32)=W0:=⟨_,rfl⟩
 have HX0:Hid (Ext w W0):=by unfold Hid;rw[←hW0];exact Ext.alloc _ _
 have HR0:Hid (Row1 W0 w.heap.size 32 o.cells):=by unfold Hid;rw[←hW0];exact Row1.made w _ _
 have HT0:Hid (TblAt W0 tb p ts (fun i=>F i∧i<w.heap.size)):=TblAt.ext (F:=fun i=>F i∧i<w.heap.size) ⟨ht.row,ht.tree,fun q=>ht.out q.1,fun j hj q=>ht.outs j hj q.1⟩ HX0.out
 have HP0:Hid (PagerAt W0 p (fun i=>F i∧i<w.heap.size) S0):=PagerAt.ext (F:=fun i=>F i∧i<w.heap.size) hp.shrink HX0.out
 have HWID:Hid (∀(F':Nat→Prop) (w':World),Keeps (fun i=>F i∧i<w.heap.size) F' W0 w'→Keeps F F' w w'):=fun F' w' h=>((Keeps.of HX0.out).trans h).widen (fun i q=>q.1)
 have HLT:Hid (¬(fun i=>F i∧i<w.heap.size) w.heap.size):=fun q=>absurd q.2 (Nat.lt_irrefl _)
 generalize (fun i=>F i∧i<w.heap.size)=F0 at *
 have HRES:=hin.result
 have cE:Hid (∀W,Calls Tryz.prog 118 #[.agg #[.int .i64 o.id,.int .i64 o.proc,.int .i64 o.object,.int .i64 o.kind,.int .i64 o.method,.int .i64 o.arg,.int .i64 o.second,.bool o.done,.int .i64 o.result,.int .i64 o.invoke,.int .i64 o.ret]] W fun e w'=>e= .returned (.tuple #[.string (bts (opL o)),.int .i64 0])∧Ext W w'):=fun W=>by
  have h1:=Z6x o W (by omega)
  rw[ho,if_pos rfl]at h1
  exact h1
 have cM:Hid (∀W,Ext W0 W→Calls Tryz.prog 70 #[.pointer (some ⟨tb,0,none⟩)] W fun e w'=>e= .returned (.bool true)∧W=w'):=fun W hW=>Z3j W (HT0.out.ext hW).row
 have cD:Hid (∀W,Ext W0 W→Calls Tryz.prog 59 #[.pointer (some ⟨tb,0,none⟩),.int .i64 o.id] W fun e w'=>∃ev,(ev=0∨ev=6)∧e= .returned (.int .i64 ev)∧∃F',TblAt w' tb p ts F'∧PagerAt w' p F' S∧Keeps F0 F' W w'):=fun W hW=>hdel W F0 (HT0.out.ext hW) (HP0.out.ext hW)
 have cW:Hid (∀i W,i<5→Calls Tryz.prog 120 #[.int .i64 (i:Nat),.agg #[.int .i64 o.id,.int .i64 o.proc,.int .i64 o.object,.int .i64 o.kind,.int .i64 o.method,.int .i64 o.arg,.int .i64 o.second,.bool o.done,.int .i64 o.result,.int .i64 o.invoke,.int .i64 o.ret]] W fun e w'=>e= .returned (.string (wayK i o))∧Ext W w'):=fun i W hi=>Z8u i o W hi (hin.way i)
 have HNO:=hD hno
 have HD:=hD hd
 have HTAB:=hD hT
 have HROOM:=hD hroom
 generalize hR:Z0z S=R at *
 have HRR:Hid (Z0z S=R):=hR
 clear hdel hno hd hT hroom hR ht hp hin ho
 have cPut:Hid (∀k,k<5→∀(W wr:World) (S1:StoreD) (Ts1:Nat→TrD) (F1:Nat→Prop),PutK tb p ts Ts0 L o R F0 W0 k wr S1 Ts1 F1→Ext wr W→Calls Tryz.prog 119 #[.pointer (some ⟨ts k,0,none⟩),.string (wayK k o),.string (recW k o)] W fun e w'=>e= .returned (.int .i64 0)∧∃S' Ts' F',PutK tb p ts Ts0 L o R F0 W0 (k+1) w' S' Ts' F'):=fun k hk W wr S1 Ts1 F1 h hW=>by
  have hsame:=h.same k (Nat.le_refl _)
  have hneed:=Y7k Ts0 k 5 hk
  have hdk:=HD.out k hk
  have hr:=h.room
  have hR:=HROOM.out
  refine(X2x (Ts1 k) (wayK k o) (recW k o) W ((h.at_.ext hW).tree k hk) (h.at_.outs k hk) (h.pag.ext hW) (by omega) h.tab.fm (h.tab.tr k hk) (Y2m k o) (Z9e k (OpIn.of HOK.out)) (by rw[hsame];omega) (by rw[hsame];exact Z9q hdk)).mono ?_
  rintro e w' ⟨rfl,S',T',hp,F',hp',hkp⟩
  exact⟨rfl,S',_,F',h.step hk HOK.out (HNO.out k hk) hp hp' ((Keeps.of hW).trans hkp)⟩
 go_enter Tryz.func55,Tryz.ntmps55
 go_upto_region 1 with fail
 clear hW0
 obtain⟨b0,b1,b2,b3,b4,b5,b6,b7,b8,b9,b10⟩:=At11.row HR0.out
 go_upto_region 7 with (first
  | (go_at_call 118;(with_reducible refine(cE.out _).mono ?_);clear cE;rintro e w1 ⟨rfl,hb1⟩;have b0:=(At11.row (HR0.out.ext hb1 HR0.out.lt)).1;have HB1:=hD hb1;clear hb1)
  | (go_at_call 70;(with_reducible refine(cM.out _ HB1.out).mono ?_);clear cM;rintro e w2 ⟨rfl,rfl⟩)
  | (go_at_call 59;(with_reducible refine(cD.out _ HB1.out).mono ?_);clear cD;rintro e w3 ⟨ev,hev,rfl,F3,ht3,hp3,hk3⟩;have HT3:=hD ht3;have HP3:=hD hp3;have HK3:Hid (Keeps F0 F3 W0 w3):=(Keeps.of HB1.out).trans hk3;clear ht3 hp3 hk3))
 have HPK:Hid (PutK tb p ts Ts0 L o R F0 W0 0 w3 S Ts0 F3):=⟨HT3.out,HP3.out,HK3.out,HTAB.out.congr (fun i _=>rfl) (fun i _=>rfl),fun i hi=>absurd hi (by omega),fun i _=>rfl,by rw[HRR.out];exact Nat.le_refl _⟩
 have t0:w3.cell? ⟨tb,0,none⟩=some (tp (ts 0)):=HT3.out.row.cell 0
 have t1:w3.cell? ⟨tb,1,none⟩=some (tp (ts 1)):=HT3.out.row.cell 1
 have t2:w3.cell? ⟨tb,2,none⟩=some (tp (ts 2)):=HT3.out.row.cell 2
 have t3:w3.cell? ⟨tb,3,none⟩=some (tp (ts 3)):=HT3.out.row.cell 3
 have t4:w3.cell? ⟨tb,4,none⟩=some (tp (ts 4)):=HT3.out.row.cell 4
 clear b0 b1 b2 b3 b4 b5 b6 b7 b8 b9 b10
 go_cut [7,32] (fun _ v wx=>v= .bool false∧wx=w3)
 case first=>
  rcases hev with rfl | rfl
  ·go_wp2_with fail
   go_meet
   exact⟨rfl,rfl⟩
  ·go_wp2_with fail
   go_meet
   exact⟨rfl,rfl⟩
 case rest=>
 obtain⟨rfl,rfl⟩:=hcut
 go_wp2_with fail
 clear t0 t1 t2 t3 t4
 go_loopw [38] (fun x wr=>∃(k:Nat) (S1:StoreD) (Ts1:Nat→TrD) (F1:Nat→Prop),k≤5∧x= .int .i64 (k:Nat)∧PutK tb p ts Ts0 L o R F0 W0 k wr S1 Ts1 F1) (fun x _=>5-(intOf x).toNat)
 case atStart=>exact⟨0,S,Ts0,F3,by omega,rfl,HPK.out⟩
 case round=>
  obtain⟨k,S1,Ts1,F1,hk,rfl,hpk⟩:=hrel
  have HP:=hD hpk
  clear hpk
  obtain⟨b0,b1,b2,b3,b4,b5,b6,b7,b8,b9,b10⟩:=At11.row (HP.out.keep.only.row HR0.out HLT.out)
  by_cases hk5:k=5
  ·subst hk5
   go_wp2_with fail
   go_ret
   have h1:=HP.out
   exact⟨rfl,S1,Ts1,F1,h1.at_,h1.pag,HWID.out _ _ h1.keep,h1.tab,h1.done,h1.same,h1.room⟩
  ·rcases(show k=0∨k=1∨k=2∨k=3∨k=4 from by omega)with rfl | rfl | rfl | rfl | rfl
   ·have cP:Hid (∀W,Ext wr W→Calls Tryz.prog 119 #[.pointer (some ⟨ts 0,0,none⟩),.string (wayK 0 o),.string (bts (opL o))] W fun e w'=>e= .returned (.int .i64 0)∧∃S' Ts' F',PutK tb p ts Ts0 L o R F0 W0 1 w' S' Ts' F'):=fun W hW=>cPut.out 0 (by omega) W wr S1 Ts1 F1 HP.out hW
    have cW1:Hid (∀W,Calls Tryz.prog 120 #[.int .i64 0,.agg #[.int .i64 o.id,.int .i64 o.proc,.int .i64 o.object,.int .i64 o.kind,.int .i64 o.method,.int .i64 o.arg,.int .i64 o.second,.bool o.done,.int .i64 o.result,.int .i64 o.invoke,.int .i64 o.ret]] W fun e w'=>e= .returned (.string (wayK 0 o))∧Ext W w'):=fun W=>cW.out 0 W (by omega)
    generalize wayK 0 o=ky at cP cW1
    have hix:=X9k ts wr
    clear cW cPut
    go_wp2_with (first
     | (go_at_call 120;(with_reducible refine(cW1.out _).mono ?_);clear cW1;rintro e w2 ⟨rfl,hb2⟩)
     | (go_at_call 119;(with_reducible refine(cP.out _ hb2).mono ?_);clear cP;rintro e w3 ⟨rfl,S3,Ts3,F3,hp3⟩;have HP3:=hD hp3;clear hp3))
    go_roundw
    case rel=>exact⟨1,S3,Ts3,F3,by omega,by go_num,HP3.out⟩
    case measure=>simp[intOf]
   ·have cP:Hid (∀W,Ext wr W→Calls Tryz.prog 119 #[.pointer (some ⟨ts 1,0,none⟩),.string (wayK 1 o),.string ⟨#[]⟩] W fun e w'=>e= .returned (.int .i64 0)∧∃S' Ts' F',PutK tb p ts Ts0 L o R F0 W0 2 w' S' Ts' F'):=fun W hW=>cPut.out 1 (by omega) W wr S1 Ts1 F1 HP.out hW
    have cW1:Hid (∀W,Calls Tryz.prog 120 #[.int .i64 1,.agg #[.int .i64 o.id,.int .i64 o.proc,.int .i64 o.object,.int .i64 o.kind,.int .i64 o.method,.int .i64 o.arg,.int .i64 o.second,.bool o.done,.int .i64 o.result,.int .i64 o.invoke,.int .i64 o.ret]] W fun e w'=>e= .returned (.string (wayK 1 o))∧Ext W w'):=fun W=>cW.out 1 W (by omega)
    generalize wayK 1 o=ky at cP cW1
    have hix:=X9j ts wr
    clear cW cPut
    go_wp2_with (first
     | (go_at_call 120;(with_reducible refine(cW1.out _).mono ?_);clear cW1;rintro e w2 ⟨rfl,hb2⟩)
     | (go_at_call 119;(with_reducible refine(cP.out _ hb2).mono ?_);clear cP;rintro e w3 ⟨rfl,S3,Ts3,F3,hp3⟩;have HP3:=hD hp3;clear hp3))
    go_roundw
    case rel=>exact⟨2,S3,Ts3,F3,by omega,by go_num,HP3.out⟩
    case measure=>simp[intOf]
   ·have cP:Hid (∀W,Ext wr W→Calls Tryz.prog 119 #[.pointer (some ⟨ts 2,0,none⟩),.string (wayK 2 o),.string ⟨#[]⟩] W fun e w'=>e= .returned (.int .i64 0)∧∃S' Ts' F',PutK tb p ts Ts0 L o R F0 W0 3 w' S' Ts' F'):=fun W hW=>cPut.out 2 (by omega) W wr S1 Ts1 F1 HP.out hW
    have cW1:Hid (∀W,Calls Tryz.prog 120 #[.int .i64 2,.agg #[.int .i64 o.id,.int .i64 o.proc,.int .i64 o.object,.int .i64 o.kind,.int .i64 o.method,.int .i64 o.arg,.int .i64 o.second,.bool o.done,.int .i64 o.result,.int .i64 o.invoke,.int .i64 o.ret]] W fun e w'=>e= .returned (.string (wayK 2 o))∧Ext W w'):=fun W=>cW.out 2 W (by omega)
    generalize wayK 2 o=ky at cP cW1
    have hix:=X9i ts wr
    clear cW cPut
    go_wp2_with (first
     | (go_at_call 120;(with_reducible refine(cW1.out _).mono ?_);clear cW1;rintro e w2 ⟨rfl,hb2⟩)
     | (go_at_call 119;(with_reducible refine(cP.out _ hb2).mono ?_);clear cP;rintro e w3 ⟨rfl,S3,Ts3,F3,hp3⟩;have HP3:=hD hp3;clear hp3))
    go_roundw
    case rel=>exact⟨3,S3,Ts3,F3,by omega,by go_num,HP3.out⟩
    case measure=>simp[intOf]
   ·have cP:Hid (∀W,Ext wr W→Calls Tryz.prog 119 #[.pointer (some ⟨ts 3,0,none⟩),.string (wayK 3 o),.string ⟨#[]⟩] W fun e w'=>e= .returned (.int .i64 0)∧∃S' Ts' F',PutK tb p ts Ts0 L o R F0 W0 4 w' S' Ts' F'):=fun W hW=>cPut.out 3 (by omega) W wr S1 Ts1 F1 HP.out hW
    have cW1:Hid (∀W,Calls Tryz.prog 120 #[.int .i64 3,.agg #[.int .i64 o.id,.int .i64 o.proc,.int .i64 o.object,.int .i64 o.kind,.int .i64 o.method,.int .i64 o.arg,.int .i64 o.second,.bool o.done,.int .i64 o.result,.int .i64 o.invoke,.int .i64 o.ret]] W fun e w'=>e= .returned (.string (wayK 3 o))∧Ext W w'):=fun W=>cW.out 3 W (by omega)
    generalize wayK 3 o=ky at cP cW1
    have hix:=X9h ts wr
    clear cW cPut
    go_wp2_with (first
     | (go_at_call 120;(with_reducible refine(cW1.out _).mono ?_);clear cW1;rintro e w2 ⟨rfl,hb2⟩)
     | (go_at_call 119;(with_reducible refine(cP.out _ hb2).mono ?_);clear cP;rintro e w3 ⟨rfl,S3,Ts3,F3,hp3⟩;have HP3:=hD hp3;clear hp3))
    go_roundw
    case rel=>exact⟨4,S3,Ts3,F3,by omega,by go_num,HP3.out⟩
    case measure=>simp[intOf]
   ·have cP:Hid (∀W,Ext wr W→Calls Tryz.prog 119 #[.pointer (some ⟨ts 4,0,none⟩),.string (wayK 4 o),.string ⟨#[]⟩] W fun e w'=>e= .returned (.int .i64 0)∧∃S' Ts' F',PutK tb p ts Ts0 L o R F0 W0 5 w' S' Ts' F'):=fun W hW=>cPut.out 4 (by omega) W wr S1 Ts1 F1 HP.out hW
    have cW1:Hid (∀W,Calls Tryz.prog 120 #[.int .i64 4,.agg #[.int .i64 o.id,.int .i64 o.proc,.int .i64 o.object,.int .i64 o.kind,.int .i64 o.method,.int .i64 o.arg,.int .i64 o.second,.bool o.done,.int .i64 o.result,.int .i64 o.invoke,.int .i64 o.ret]] W fun e w'=>e= .returned (.string (wayK 4 o))∧Ext W w'):=fun W=>cW.out 4 W (by omega)
    generalize wayK 4 o=ky at cP cW1
    have hix:=X9g ts wr
    clear cW cPut
    go_wp2_with (first
     | (go_at_call 120;(with_reducible refine(cW1.out _).mono ?_);clear cW1;rintro e w2 ⟨rfl,hb2⟩)
     | (go_at_call 119;(with_reducible refine(cP.out _ hb2).mono ?_);clear cP;rintro e w3 ⟨rfl,S3,Ts3,F3,hp3⟩;have HP3:=hD hp3;clear hp3))
    go_roundw
    case rel=>exact⟨5,S3,Ts3,F3,by omega,by go_num,HP3.out⟩
    case measure=>simp[intOf]
end Go.Proofs.YtmiolpfanlpfnaaGreat
