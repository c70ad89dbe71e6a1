/- join, in terms of trees. Conditions: pages that bear a tree. -/
import Derived.Test.YtohaldfnmgcofaaGreatT28
import Derived.Test.YtohaldfnmgcofaaGreatT24
set_option maxRecDepth 100000
set_option maxHeartbeats 4000000
set_option linter.unusedSimpArgs false
set_option linter.unusedVariables false
namespace Go.Proofs.YtohaldfnmgcofaaGreat
open Go.RowKit
theorem Y5f:∀(d:Nat) (a:TT d) (s:ByteArray) (b:TT d),Y2b (Z0c d a) s (Z0c d b)=Z0c d (Z3a d a s b)
 | 0,a,s,b=>by
   show NodeD.mk true (LeafT.keys a++ []++LeafT.keys b) (LeafT.vals a++LeafT.vals b) ([]++ [])=_;rw[List.append_nil];rfl
 | d+1,a,s,b=>by show NodeD.mk false (InT.keys a++ [s]++InT.keys b) ([]++ []) ((InT.kids a).map (fun c=>(atT d c:Int))++(InT.kids b).map (fun c=>(atT d c:Int)))=NodeD.mk false (InT.keys a++s::InT.keys b) [] ((InT.kids a++InT.kids b).map (fun c=>(atT d c:Int)));rw[List.map_append,aG];rfl
theorem X0q{α β:Type}(f:α->β):∀(l:List α) (i:Nat),(l.map f).eraseIdx i=(l.eraseIdx i).map f
 | [],_=>rfl
 | _::_,0=>rfl
 | x::l,i+1=>by rw[List.map_cons,List.eraseIdx_cons_succ,List.eraseIdx_cons_succ,List.map_cons,X0q f l i]
theorem V2e{d:Nat}{t:TT (d+1)}{j:Nat}{a c:TT d}(ha:(InT.kids t)[j]? =some a)(hc:atT d c=atT d a):Y0d (Z0c (d+1) t) j=Z0c (d+1) (Z6t d t j c):=by
 show NodeD.mk false _ [] _=NodeD.mk false _ [] _
 congr 1
 show((InT.kids t).map (fun c=>(atT d c:Int))).eraseIdx (j+1)=(((InT.kids t).set j c).eraseIdx (j+1)).map (fun c=>(atT d c:Int));rw[<-Z5v ha hc,X0q]
theorem V2g:∀(d:Nat) (a b:TT d),(Z0c d a).leaf=(Z0c d b).leaf
 | 0,_,_=>rfl
 | _+1,_,_=>rfl
theorem V7q{tr:Nat}{G:Nat->Prop}(at_ j:Nat)(n:NodeD){kv vv cv:Value}(w:World)(hn:NodeAs w G n kv vv cv)(hk:n.kids.length<2):
  cQ 140 #[tp tr,.int .i64 at_,.agg #[.bool false,kv,vv,cv],.int .i64 j] w fun e w'=>e= .returned (.int .i64 0)/\Ext w w':=by
 obtain⟨kA,kc,rfl⟩:=OwnL.form hn.keys;obtain⟨vA,vc,rfl⟩:=OwnL.form hn.vals;obtain⟨cA,cc,rfl⟩:=OwnL.form hn.kids;have q1:decide ((n.kids.length:Int)<2)=true:=aN;clear hn hk;go_enter Tryz.func140,Tryz.ntmps140;go_wp2_with fail;go_ret;exact⟨rfl,Ext.alloc _ _⟩
theorem V7r{tr p i d:Nat}{F G:Nat->Prop}{S:StoreD}(t:TT (d+1))(j:Nat){kv vv cv:Value}(w:World)(ht:Z0b w tr p i)(hnt:¬F tr)(h:PagerAt w p F S)(hf:Fm S)(hon:onT S (d+1) t)(hok:okT (d+1) t)(hnd:(Z0a (d+1) t).Nodup)
 (hn:NodeAs w G (Z0c (d+1) t) kv vv cv)(hG:∀i,F i->¬G i)(hGt:¬G tr)(hj:2<=(InT.kids t).length->j+1<(InT.kids t).length):
  cQ 140 #[tp tr,.int .i64 (InT.at_ t),.agg #[.bool false,kv,vv,cv],.int .i64 j] w fun e w'=>e= .returned (.int .i64 0)/\∃(S':StoreD) (t':TT (d+1)) (F':Nat->Prop),U2a d S t j S' t'/\PagerAt w' p F' S'/\Only (Un F G) w w'/\∀i,F' i->F i\/w.heap.size<=i:=by
 have hkl:(Z0c (d+1) t).kids.length=(InT.kids t).length:=List.length_map _;rcases Nat.lt_or_ge (InT.kids t).length 2 with hlt | hge
 ·refine(V7q (tr:=tr) (InT.at_ t) j (Z0c (d+1) t) w hn (by rw[hkl];exact hlt)).mono ?_;rintro e w' ⟨rfl,hx⟩;exact⟨rfl,S,t,F,.inl ⟨hlt,rfl,rfl⟩,h.ext hx,Only.of hx,fun i q=> .inl q⟩
 ·have hj1:=hj hge;have hlen:(InT.kids t).length=(InT.keys t).length+1:=hok.2.1;obtain⟨a,ha⟩:∃a,(InT.kids t)[j]? =some a:=⟨_,aB (by omega)⟩;obtain⟨b,hb⟩:∃b,(InT.kids t)[j+1]? =some b:=⟨_,aB hj1⟩;obtain⟨s,hs⟩:∃s,(InT.keys t)[j]? =some s:=⟨_,aB (by omega)⟩;have ham:a∈InT.kids t:=List.mem_of_getElem? ha;have hbm:b∈InT.kids t:=List.mem_of_getElem? hb;have hpg:=Z3z (d+1) t hon;have hsk:Z2o s:=hok.2.2.1 s (List.mem_of_getElem? hs);have hsk2:=hsk.2;have hless:∀c,atT d c=atT d a->Y0d (Z0c (d+1) t) j=Z0c (d+1) (Z6t d t j c):=fun c hc=>V2e ha hc;refine(X0v (InT.at_ t) (atT d a) (atT d b) j (Z0c (d+1) t) (Z0c d a) (Z0c d b) s w ht hnt h hn hG hGt rfl (by rw[hkl];exact hj1) (by rw[hkl];exact hlen) hpg.ok.many
   (by show((InT.kids t).map _)[j]? =_;rw[List.getElem?_map,ha];rfl) (by show((InT.kids t).map _)[j+1]? =_;rw[List.getElem?_map,hb];rfl) hs (Z3z d a (hon.2 a ham)) (Z3z d b (hon.2 b hbm)) (V2g d a b) (by omega) (fun hz=> ?_)).mono ?_
  ·rw[Y5f]at hz ⊢;rw[hless (Z3a d a s b) (X3f d a s b)];obtain⟨_,y1,y2,y3,y4,y5⟩:=X5e hf hon hok hnd ha hb hs hz;exact⟨hpg.given,y1,y2,y3,y4,y5⟩
  ·rintro e w' ⟨rfl,S',F',hp,hpg',ho,hnew⟩;rcases hp with ⟨h1,rfl⟩ | ⟨h1,rfl⟩
   ·rw[Y5f]at h1;exact⟨rfl,_,t,F',.inr ⟨hge,a,b,s,ha,hb,hs,.inl ⟨h1,rfl,rfl⟩⟩,hpg',ho,hnew⟩
   ·rw[Y5f]at h1 hpg';rw[hless (Z3a d a s b) (X3f d a s b)]at hpg';exact⟨rfl,_,_,F',.inr ⟨hge,a,b,s,ha,hb,hs,.inr ⟨h1,rfl,rfl⟩⟩,hpg',ho,hnew⟩
def Y0q(d p:Nat)(F:Nat->Prop)(S:StoreD)(t:TT d)(k:ByteArray)(w:World)(e:Ending)(w':World):Prop:=
 e= .returned (.int .i64 0)/\∃(S':StoreD) (t':TT d) (F':Nat->Prop),Y2n d S t k S' t'/\PagerAt w' p F' S'/\Keeps F F' w w'
theorem X6t{tr p i d:Nat}{F:Nat->Prop}{S:StoreD}(D:Nat)(t:TT (d+1))(k:ByteArray)(w:World)(ht:Z0b w tr p i)(hnt:¬F tr)(h:PagerAt w p F S)(hf:Fm S)(hon:onT S (d+1) t)(hok:okT (d+1) t)(hhas:hasT (d+1) t k)(hnd:(Z0a (d+1) t).Nodup)(jH:D<=1000)
 (hIH:∀(F:Nat->Prop) (w:World) (c:TT d),c∈InT.kids t->hasT d c k->Z0b w tr p i->¬F tr->PagerAt w p F S->cQ 79 #[tp tr,.int .i64 (atT d c),.int .i64 D,.string k] w (Y0q d p F S c k w)):
  cQ 79 #[tp tr,.int .i64 (InT.at_ t),.int .i64 ((D+1:Nat):Int),.string k] w (Y0q (d+1) p F S t k w):=by
 have hkeys:(Z0c (d+1) t).keys=InT.keys t:=rfl;have hpg:=Z3z (d+1) t hon;have cL:=Z1m (InT.at_ t) (Z0c (d+1) t) w ht h hpg;have hkl:(InT.kids t).length=(InT.keys t).length+1:=hok.2.1;have hj:Z0h (InT.keys t) k<(InT.kids t).length:=by have:=Z4o (k:=k) hok.1;omega
 have hmany:=hpg.ok.many;rw[hkeys]at hmany;obtain⟨c,hc,hhc⟩:=hhas;have hcm:c∈InT.kids t:=List.mem_of_getElem? hc;have HKID:Hid ((Z0c (d+1) t).kids[Z0h (InT.keys t) k]?.getD 0=(atT d c:Int)):=by unfold Hid;show(((InT.kids t).map fun c=>(atT d c:Int))[Z0h (InT.keys t) k]?).getD 0=_;rw[List.getElem?_map,hc];rfl
 have HKL:Hid (Z0h (InT.keys t) k<(Z0c (d+1) t).kids.length):=by unfold Hid;show _<((InT.kids t).map _).length;rw[List.length_map];exact hj
 have HKN:Hid ((Z0c (d+1) t).kids.length=(InT.kids t).length):=by unfold Hid;show((InT.kids t).map _).length=_;rw[List.length_map]
 have hKmany:(InT.kids t).length<=256:=by omega
 have HDN:Hid (∀W kv vv cv G,NodeAs W G (Z0c (d+1) t) kv vv cv->cQ 137 #[.agg #[.bool false,kv,vv,cv],.string k] W fun e w'=>e= .returned (.int .i64 (Z0h (InT.keys t) k))/\Ext W w'):=fun W kv vv cv G q=>Y3a k W q hok.1 (by rw[hkeys];omega);have HJOIN:Hid (∀S1 c' W F1 G kv vv cv,Y2n d S c k S1 c'->Z0b W tr p i->¬F1 tr->PagerAt W p F1 S1->NodeAs W G (Z0c (d+1) t) kv vv cv->(∀i,F1 i->¬G i)->¬G tr->
   cQ 140 #[tp tr,.int .i64 (InT.at_ t),.agg #[.bool false,kv,vv,cv],.int .i64 ((min (Z0h (InT.keys t) k) ((InT.kids t).length-2):Nat):Int)] W fun e w'=>e= .returned (.int .i64 0)/\∃(S':StoreD) (t':TT (d+1)) (F':Nat->Prop),Y2n (d+1) S t k S' t'/\PagerAt w' p F' S'/\Only (Un F1 G) W w'/\∀i,F' i->F1 i\/W.heap.size<=i):=fun S1 c' W F1 G kv vv cv htk q1 q2 q3 q4 q5 q6=>by
  obtain⟨G1,hl⟩:=Z7a d htk hf (hon.2 c hcm) (hok.2.2.2.1 c hcm) hhc ((Z1c hnd).1 c hcm).2;have hu:=X9m hf hon hok hnd hc hl;have hn1:=hu.nd hnd;have hnode:Z0c (d+1) (InT.mk (InT.at_ t) (InT.keys t) ((InT.kids t).set (Z0h (InT.keys t) k) c'))=Z0c (d+1) t:=by
   show NodeD.mk false _ [] _=NodeD.mk false _ [] _
   congr 1
   exact Z5v hc hl.at_
  refine(V7r (InT.mk (InT.at_ t) (InT.keys t) ((InT.kids t).set (Z0h (InT.keys t) k) c')) (min (Z0h (InT.keys t) k) ((InT.kids t).length-2)) W q1 q2 q3 (hu.fm hf hon) hu.on hu.ok hn1.1 (by rw[hnode];exact q4) q5 q6 (fun h2=> ?_)).mono ?_
  ·show _+1<((InT.kids t).set _ _).length;have h2:2<=((InT.kids t).set (Z0h (InT.keys t) k) c').length:=h2;rw[List.length_set]at h2 ⊢;omega
  ·rintro e w' ⟨rfl,S',t',F',hj,hp,ho,hn⟩;exact⟨rfl,S',t',F',⟨c,hc,S1,c',htk,hj⟩,hp,ho,hn⟩
 have HIH:Hid (∀(F:Nat->Prop) (w:World),Z0b w tr p i->¬F tr->PagerAt w p F S->cQ 79 #[tp tr,.int .i64 (atT d c),.int .i64 D,.string k] w (Y0q d p F S c k w)):=fun F w q1 q2 q3=>hIH F w c hcm hhc q1 q2 q3;have HT:=hD ht;have HNT:=hD hnt;have hlt:=ht.lt;have hleaf:(Z0c (d+1) t).leaf=false:=rfl;have HLF:=hD hleaf;rw[hleaf]at cL;obtain⟨m,hm⟩:∃m,min (Z0h (InT.keys t) k) ((InT.kids t).length-2)=m:=⟨_,rfl⟩;have HMI:Hid (max (0:Int) (min (Z0h (InT.keys t) k:Int) (((InT.kids t).length:Int)-2))=(m:Int)):=by unfold Hid;omega
 rw[hm]at HJOIN;generalize hnode:Z0c (d+1) t=n at *;generalize hpos:Z0h (InT.keys t) k=j at *;generalize hata:InT.at_ t=a at *;generalize hatc:atT d c=ac at *;generalize hkll:(InT.kids t).length=kl at *;obtain⟨dv,hdv⟩:∃dv:Nat,D+1=dv:=⟨_,rfl⟩;rw[hdv];have T0:decide ((dv:Int)=0)=false:=aM;have T1:(dv:Int)-1=(D:Int):=by omega
 have T2:dv<=1001:=by omega
 have T3:((dv:Int)==0)=false:=by simp;omega
 have T4:0<dv:=by omega
 have HT1:=hD T1;have HMI2:Hid (max (0:Int) (min (j:Int) ((n.kids.length:Int)-2))=(m:Int)):=by unfold Hid;rw[HKN.out];exact HMI.out
 have T9:IntKind.i64.wrap ((n.kids.length:Int)-2)=(n.kids.length:Int)-2:=by rw[IntKind.wrap_i64,HKN.out];omega
 clear ht hnt h hf hon hok hhc hnd hIH hkeys hpg hkl hmany hc hcm hleaf hnode hpos hata hatc hdv jH T1 hkll hm;go_enter Tryz.func79,Tryz.ntmps79;go_upto_region 14 with (first
  | (go_at_call 82;(with_reducible refine cL.mono ?_);clear cL;rintro e w1 ⟨kA,kn,kc,vA,vn,vc,cA,cn,cc,B,F1,rfl,hn1,hp1,hk1,hB,hF1,hBW⟩
     have cD:=HDN.out (w1.alloc (.cells #[.bool false,.slice kA kn kc,.slice vA vn vc,.slice cA cn cc] 166)) _ _ _ _ (hn1.ext (Ext.alloc _ _));have HR1:Hid (Z0b w1 tr p i):=hD (hk1.only.row HT.out HNT.out);have HNT1:Hid (¬F1 tr):=hk1.out hlt HNT.out;have HTB:Hid (¬B<=tr):=by have h8:=aE hlt hB;intro e;omega
     have hb1:BoxG w1 (w1.alloc (.cells #[.bool false,.slice kA kn kc,.slice vA vn vc,.slice cA cn cc] 166)) (fun j=>B<=j) w1.heap.size n (.slice kA kn kc) (.slice vA vn vc) (.slice cA cn cc):=by have q:=BoxG.made hn1 (fun j q=>Nat.le_trans hBW q);rw[HLF.out]at q;exact q
     have HB1:=hD hb1;have d0:(w1.alloc (.cells #[.bool false,.slice kA kn kc,.slice vA vn vc,.slice cA cn cc] 166)).cell? ⟨w1.heap.size,0,none⟩=some (.bool false):=(Row1.made w1 _ [.bool false,.slice kA kn kc,.slice vA vn vc,.slice cA cn cc]).cell 0;have HP1:=hD hp1;have HK1:=hD hk1;have HB:=hD hB;have HF1:=hD hF1;clear hn1 hp1 hk1 hB hF1 hBW hb1)
  | (go_at_call 137;(with_reducible refine cD.mono ?_);clear cD;rintro e w2 ⟨rfl,hb2⟩
     have HB2:=hD (HB1.out.ext hb2);have HX2:Hid (Ext w1 w2):=Ext.trans (Ext.alloc _ _) hb2;clear hb2 d0))
 obtain⟨g,c9,hcv,hg,hgc⟩:=Z6p HB2.out.own.kids j HKL.out;rw[HKID.out]at hgc;injection hcv with e1 e2 e3;subst e1 e2 e3;have q4:j<n.kids.length:=HKL.out;have q5:(j:Int)<(n.kids.length:Int):=by omega
 have x3:w2.cell? ⟨w1.heap.size,3,none⟩=some (.slice (some ⟨g,0,none⟩) n.kids.length cc):=HB2.out.row.cell 3;have cP:=HIH.out F1 w2 (HR1.out.ext HX2.out HR1.out.lt) HNT1.out (HP1.out.ext HX2.out);rw[<-HT1.out]at cP;clear hg;go_upto_region 15 with (first
  | (go_at_call 79;(with_reducible refine cP.mono ?_);clear cP;rintro e w3 ⟨rfl,S1,c',F3,htk,hp3,hk3⟩
     have hcall:=HB2.out.call hk3 (fun i q q'=>by have h8:=HF1.out i q;have h9:B<=i:=q';omega);have HB3:=hD hcall.1;have hF3:=hcall.2;have hk2:Keeps F F1 w w2:=HK1.out.ext HX2.out;have HK3:Hid (Keeps F F3 w w3):=Keeps.trans hk2 hk3;have HS23:=hD hk3.only.size;have HTG:Hid (¬((B<=tr/\tr<w2.heap.size)\/w3.heap.size<=tr)):=fun q=>by have h8:=HTB.out;have h9:=HS23.out;have h7:=HX2.out.size;have h6:=HR1.out.lt;omega
     have HR3:Hid (Z0b w3 tr p i):=hk3.only.row (HR1.out.ext HX2.out HR1.out.lt) HNT1.out;have HNT3:Hid (¬F3 tr):=hk3.out (aE HR1.out.lt HX2.out.size) HNT1.out;have cJ:=HJOIN.out S1 c' w3 (fun i=>F3 i/\i<w3.heap.size) (fun j=>(B<=j/\j<w2.heap.size)\/w3.heap.size<=j) _ _ _ htk HR3.out (fun q=>HNT3.out q.1) hp3.shrink HB3.out.own (fun i q r=>hF3 i q.1 q.2 r) HTG.out;have x0:w3.cell? ⟨w1.heap.size,0,none⟩=some (.bool false):=by rw[HB3.out.row.cell,HLF.out];rfl
     have x1:w3.cell? ⟨w1.heap.size,1,none⟩=some (.slice kA kn kc):=HB3.out.row.cell 1;have x2:w3.cell? ⟨w1.heap.size,2,none⟩=some (.slice vA vn vc):=HB3.out.row.cell 2;have x3:w3.cell? ⟨w1.heap.size,3,none⟩=some (.slice (some ⟨g,0,none⟩) n.kids.length cc):=HB3.out.row.cell 3;rw[<-HMI2.out]at cJ;have CJ:=hD cJ;clear cJ hp3 hk3 hk2 hgc hcall hF3))
 go_wp2_with (go_at_call 140;(with_reducible refine CJ.out.mono ?_);clear CJ;rintro e w4 ⟨rfl,S4,t4,F4,htk4,hp4,ho4,hn4⟩);go_ret;refine⟨rfl,S4,t4,F4,htk4,hp4,⟨HK3.out.only.trans ho4 (fun i q=> ?_),fun i q=> ?_⟩⟩
 ·rcases q with q | q | q
  ·exact(HK3.out.new i q.1)
  ·have h1:=HK1.out.only.size;have h4:=HB.out;exact .inr (by have:=q.1;omega)
  ·exact .inr (by have:=HK3.out.only.size;omega)
 ·rcases hn4 i q with q | q
  ·exact HK3.out.new i q.1
  ·exact .inr (by have:=HK3.out.only.size;omega)
theorem X9x{tr p i:Nat}(k:ByteArray)(d:Nat):∀ {F:Nat->Prop} {S:StoreD} (D:Nat) (t:TT d) (w:World),Z0b w tr p i->¬F tr->PagerAt w p F S->Fm S->onT S d t->okT d t->hasT d t k->(Z0a d t).Nodup->d<D->D<=1000->
  cQ 79 #[tp tr,.int .i64 (atT d t),.int .i64 D,.string k] w (Y0q d p F S t k w):=by
 induction d with
 | zero=>
   intro F S D t w ht hnt h hf hon hok hhas hnd hd jH;refine(X9v (LeafT.at_ t) D k (Z0c 0 t) w ht hnt h hon rfl hok.1 hd hhas).mono ?_;rintro e w' ⟨rfl,F',hp,hk⟩;exact⟨rfl,_,_,F',⟨rfl,rfl⟩,hp,hk⟩
 | succ d ih=>
   intro F S D t w ht hnt h hf hon hok hhas hnd hd jH;obtain⟨D',rfl⟩:∃D',D=D'+1:=⟨D-1,by omega⟩;exact X6t D' t k w ht hnt h hf hon hok hhas hnd (by omega) (fun F w c hc hh q1 q2 q3=>ih D' c w q1 q2 q3 hf (hon.2 c hc) (hok.2.2.2.1 c hc) hh ((Z1c hnd).1 c hc).2 (by omega) (by omega))
structure ShS (p i d:Nat) (S1:StoreD) (t1:TT d) (F:Nat->Prop) (w:World) (m:Nat) (tt:TT m) (Sr:StoreD) (Fr:Nat->Prop) (wr:World):Prop where
 pag:PagerAt wr p Fr Sr
 keep:Keeps F Fr w wr
 on:onT Sr m tt
 ok:okT m tt
 nd:(Z0a m tt).Nodup
 fm:Fm Sr
 fin:∀S' T',ShrR i m Sr tt S' T'->ShrR i d S1 t1 S' T'
theorem V5v{i m:Nat}(hi:i<16){S:StoreD}{t:TT (m+1)}{c:TT m}(hf:Fm S)(hon:onT S (m+1) t)(hnd:(Z0a (m+1) t).Nodup)(hc:InT.kids t= [c]):
  Fm (useP (Z0q S i (atT m c)) (InT.at_ t) false)/\onT (useP (Z0q S i (atT m c)) (InT.at_ t) false) m c/\(Z0a m c).Nodup/\Z0s S (atT m c)/\Z0s (Z0q S i (atT m c)) (InT.at_ t):=by
 have hcm:c∈InT.kids t:=by rw[hc];exact List.mem_cons_self
 have hm:=hf.most;have hgc:=Z0l m c (hon.2 c hcm) _ (Z0r m c);have hca:=hgc.2.1;have hta:=hon.1.given;have hpg:Z0a (m+1) t=InT.at_ t::Z0a m c:=by show InT.at_ t::(InT.kids t).flatMap (Z0a m)=_;rw[hc];simp
 rw[hpg,List.nodup_cons]at hnd;obtain⟨b1,hr1⟩:=Stp.setRoot (i:=i) (n:=atT m c) (Stp.refl hf.full |>.mono (P':=fun _=>False) (fun _ q=>q)) hi (by omega);have b2:=Y2q b1.full (n:=InT.at_ t) (by have:=hta.2.1;omega);have b12:=b1.trans (Q:=fun _=>False) (b2.big i) (fun b q=>by cases q) (fun b q=> .inl q);refine⟨hf.big b12 (fun b q=>by simp only[List.nil_append,List.mem_singleton]at q;subst q;exact hta.1),Y4h b12.frm m c (hon.2 c hcm) (fun b q=>⟨fun r=>r.elim id id,by simp,by
  simp only[List.nil_append,List.mem_singleton];intro e;subst e;exact hnd.1 q⟩),hnd.2,hgc,⟨hta.1,by rw[b1.head];exact hta.2.1,(b1.used _).2 ⟨.inl hta.2.2,by simp⟩⟩⟩
theorem V5p:∀(d:Nat) {S S':StoreD} {t t':TT d} {k:ByteArray},Y2n d S t k S' t'->atT d t'=atT d t
 | 0,_,_,_,_,_,h=>by rw[h.2];rfl
 | d+1,_,_,_,_,_,h=>by obtain⟨c,hc,S1,c',h1,h2⟩:=h;rcases h2 with ⟨_,_,rfl⟩ | ⟨_,a,b,s,_,_,_,⟨_,_,rfl⟩ | ⟨_,_,rfl⟩⟩<;>rfl
theorem V8r{tr p i d:Nat}{F:Nat->Prop}{S:StoreD}(t:TT d)(k:ByteArray)(w:World)(ht:Z0b w tr p i)(hnt:¬F tr)(h:PagerAt w p F S)(hf:Fm S)(hi:i<16)(hT:TrS S i (.yes d t))(hk:∃x∈Z0f d t,x.1=k)(hd:d<31)
 (hDrop:∀(S1:StoreD) (t1:TT d) (W:World) (F1:Nat->Prop),Z0f d t1= []->Z7w (Z0f d t) k= []->TrS S1 i (.yes d t1)->Fm S1->Z0b W tr p i->¬F1 tr->PagerAt W p F1 S1->cQ 81 #[tp tr] W fun e w'=>e= .returned (.int .i64 0)/\∃F',PagerAt w' p F' (Z6q (Z0q S1 i 0) (Z0a d t1))/\Keeps F1 F' W w'):
  cQ 31 #[tp tr,.string k] w fun e w'=>e= .returned (.int .i64 0)/\∃(S':StoreD) (T':TrD) (F':Nat->Prop),Z8t S i k S' T' (.yes d t)/\PagerAt w' p F' S'/\Keeps F F' w w':=by
 have hTT:=hT;obtain⟨hr,hon,hok,hnd⟩:=hTT;have hhas:=(Y0h d t hok k).2 hk;have cG:=X3x (.yes d t) k w ht hnt h hi hT (by exact hd);obtain⟨x,hx,rfl⟩:=hk;have hgk:Y1v (TrD.list (.yes d t)) x.1=some x.2:=Y1u (Z4u d t hok) hx;rw[hgk,getV]at cG;have HRT:Hid (∀W F1,Z0b W tr p i->¬F1 tr->PagerAt W p F1 S->cQ 78 #[tp tr] W fun e w'=>e= .returned (.tuple #[.int .i64 (atT d t),.int .i64 0])/\∃F',PagerAt w' p F' S/\Keeps F1 F' W w'):=fun W F1 q1 q2 q3=>by have q:=Z4d W q1 q2 q3 hi;rw[hr]at q;exact q
 have HTK:Hid (∀W F1,Z0b W tr p i->¬F1 tr->PagerAt W p F1 S->cQ 79 #[tp tr,.int .i64 (atT d t),.int .i64 32,.string x.1] W (Y0q d p F1 S t x.1 W)):=fun W F1 q1 q2 q3=>X9x x.1 d 32 t W q1 q2 q3 hf hon hok hhas hnd (by omega) (by omega);have HL:Hid (∀S1 t1,Y2n d S t x.1 S1 t1->Fm S1/\TrS S1 i (.yes d t1)/\Z0f d t1=Z7w (Z0f d t) x.1):=fun S1 t1 htk=>by obtain⟨G,hl⟩:=Z7a d htk hf hon hok hhas hnd;exact⟨hl.fm hf hon,⟨by rw[hl.stp.root,hr,hl.at_],hl.on,hl.ok,(hl.nd hnd).1⟩,hl.list⟩
 have HEM:Hid (∀S1 t1 W F1,Y2n d S t x.1 S1 t1->Z0b W tr p i->¬F1 tr->PagerAt W p F1 S1->cQ 80 #[tp tr] W fun e w'=>e= .returned (.bool ((Z0f d t1).isEmpty))/\∃F',PagerAt w' p F' S1/\Keeps F1 F' W w'):=fun S1 t1 W F1 htk q1 q2 q3=>
  X1w (.yes d t1) W q1 q2 q3 hi (HL.out S1 t1 htk).2.1 hd
 have HDR:Hid (∀S1 t1 W F1,Y2n d S t x.1 S1 t1->Z0f d t1= []->Z0b W tr p i->¬F1 tr->PagerAt W p F1 S1->cQ 81 #[tp tr] W fun e w'=>e= .returned (.int .i64 0)/\∃(S':StoreD) (T':TrD) (F':Nat->Prop),Z8t S i x.1 S' T' (.yes d t)/\PagerAt w' p F' S'/\Keeps F1 F' W w'):=fun S1 t1 W F1 htk he q1 q2 q3=>by obtain⟨y1,y2,y3⟩:=HL.out S1 t1 htk;refine(hDrop S1 t1 W F1 he (by rw[<-y3];exact he) y2 y1 q1 q2 q3).mono ?_;rintro e w' ⟨rfl,F',hp,hk⟩;exact⟨rfl,_,.no,F',⟨S1,t1,htk,.inl ⟨he,rfl,rfl⟩⟩,hp,hk⟩
 have HSH:Hid (∀S1 t1 S' T',Y2n d S t x.1 S1 t1->Z0f d t1≠ []->ShrR i d S1 t1 S' T'->Z8t S i x.1 S' T' (.yes d t)):=fun S1 t1 S' T' htk he hs=>⟨S1,t1,htk,.inr ⟨he,hs⟩⟩;have HX:Hid (∀F1 W,Keeps F F1 w W->Z0b W tr p i/\¬F1 tr):=fun F1 W q=>⟨q.only.row ht hnt,q.out ht.lt hnt⟩;have HI:=hD hi;have i16:i<=15:=by omega
 clear ht hnt h hf hT hr hon hok hnd hhas hDrop hx hgk hi hd;generalize x.1=k at *;go_enter Tryz.func31,Tryz.ntmps31;go_upto_region 10 with (first
  | (go_at_call 77;(with_reducible refine cG.mono ?_);clear cG;rintro e w1 ⟨rfl,F1,hp1,hk1⟩
     obtain⟨q1,q2⟩:=HX.out _ _ hk1;have cR:=HRT.out w1 F1 q1 q2 hp1;have HK1:=hD hk1;clear hp1 hk1 q1 q2)
  | (go_at_call 78;(with_reducible refine cR.mono ?_);clear cR;rintro e w2 ⟨rfl,F2,hp2,hk2⟩
     have hk2':=Keeps.trans HK1.out hk2;obtain⟨q1,q2⟩:=HX.out _ _ hk2';have cT:=HTK.out w2 F2 q1 q2 hp2;have HK2:=hD hk2';clear hp2 hk2 hk2' q1 q2)
  | (go_at_call 79;(with_reducible refine cT.mono ?_);clear cT;rintro e w3 ⟨rfl,S1,t1,F3,htk,hp3,hk3⟩
     have hk3':=Keeps.trans HK2.out hk3;obtain⟨q1,q2⟩:=HX.out _ _ hk3';have cE:=HEM.out S1 t1 w3 F3 htk q1 q2 hp3;have HTKR:=hD htk;have HK3:=hD hk3';clear htk hp3 hk3 hk3' q1 q2))
 obtain⟨b,hb⟩:∃b,(Z0f d t1).isEmpty=b:=⟨_,rfl⟩;rw[hb]at cE;cases b with
 | true=>
   have he:Z0f d t1= []:=List.isEmpty_iff.1 hb;go_wp2_with (first
    | (go_at_call 80;(with_reducible refine cE.mono ?_);clear cE;rintro e w4 ⟨rfl,F4,hp4,hk4⟩
       have hk4':=Keeps.trans HK3.out hk4;obtain⟨q1,q2⟩:=HX.out _ _ hk4';have cD:=HDR.out S1 t1 w4 F4 HTKR.out he q1 q2 hp4;have HK4:=hD hk4';clear hp4 hk4 hk4' q1 q2)
    | (go_at_call 81;(with_reducible refine cD.mono ?_);clear cD;rintro e w5 ⟨rfl,S',T',F5,hdel,hp5,hk5⟩;have HD5:=hD hdel;have HP5:=hD hp5;have HK5:=hD (Keeps.trans HK4.out hk5);clear hdel hp5 hk5))
   go_ret;exact⟨rfl,S',T',F5,HD5.out,HP5.out,HK5.out⟩
 | false=>
   have he:Z0f d t1≠ []:=fun q=>by rw[q]at hb;cases hb
   have HFIN:Hid (∀S' T',ShrR i d S1 t1 S' T'->Z8t S i k S' T' (.yes d t)):=fun S' T' q=>HSH.out S1 t1 S' T' HTKR.out he q;obtain⟨y1,y2,_⟩:=HL.out S1 t1 HTKR.out;have HY:=hD (show Fm S1/\TrS S1 i (.yes d t1)from⟨y1,y2⟩);have hat:atT d t1=atT d t:=by have:=HTKR.out;exact V5p d this
   rw[<-hat];clear y1 y2 he hb HSH HDR HEM HTK HRT hat;go_wp2_with (go_at_call 80;(with_reducible refine cE.mono ?_);clear cE;rintro e w4 ⟨rfl,F4,hp4,hk4⟩;have HP4:=hD hp4;have HK4:=hD (Keeps.trans HK3.out hk4);clear hp4 hk4)
   go_loopg [7] d (fun m v wr=>∃(tt:TT m) (Sr:StoreD) (Fr:Nat->Prop),v= .int .i64 (atT m tt)/\Hid (ShS p i d S1 t1 F w m tt Sr Fr wr))
   case atStart=>exact⟨t1,S1,F4,rfl,hD ⟨HP4.out,HK4.out,HY.out.2.2.1,HY.out.2.2.2.1,HY.out.2.2.2.2,HY.out.1,fun _ _ q=>q⟩⟩
   case round=>
    obtain⟨tt,Sr,Fr,rfl,HSS⟩:=hrel;obtain⟨q1,q2⟩:=HX.out _ _ HSS.out.keep;cases gk with
    | zero=>
      have cL:=Z1m (atT 0 tt) (Z0c 0 tt) wr q1 HSS.out.pag (Z3z 0 tt HSS.out.on);rw[show (Z0c 0 tt).leaf=true from rfl]at cL;have HEND:Hid (∀F' W,PagerAt W p F' Sr->Keeps F F' w W->∃(S':StoreD) (T':TrD) (F':Nat->Prop),Z8t S i k S' T' (.yes d t)/\PagerAt W p F' S'/\Keeps F F' w W):=fun F' W r1 r2=>⟨Sr,.yes 0 tt,F',HFIN.out _ _ (HSS.out.fin _ _ ⟨rfl,rfl⟩),r1,r2⟩;have HKR:=hD HSS.out.keep;clear q1 q2 HSS HFIN;generalize atT 0 tt=ac at *;go_wp2_with (go_at_call 82;(with_reducible refine cL.mono ?_);clear cL;rintro e w5 ⟨kA,kn,kc,vA,vn,vc,cA,cn,cc,B5,F5,rfl,hn5,hp5,hk5,_,_,_⟩;have HP5:=hD hp5;have HK5:=hD (HKR.out.trans hk5);clear hn5 hp5 hk5);go_ret;exact⟨rfl,HEND.out _ _ (HP5.out.ext (Ext.alloc _ _)) (HK5.out.ext (Ext.alloc _ _))⟩
    | succ m=>
      have cL:=Z1m (atT (m+1) tt) (Z0c (m+1) tt) wr q1 HSS.out.pag (Z3z (m+1) tt HSS.out.on);rw[show (Z0c (m+1) tt).leaf=false from rfl]at cL;have hkl:(InT.kids tt).length=(InT.keys tt).length+1:=HSS.out.ok.2.1;have hkn:(Z0c (m+1) tt).kids.length=(InT.kids tt).length:=List.length_map _;have hmany:(InT.keys tt).length<=255:=(Z3z (m+1) tt HSS.out.on).ok.many;by_cases h1:1<(InT.kids tt).length
      ·have HEND:Hid (∀F' W,PagerAt W p F' Sr->Keeps F F' w W->∃(S':StoreD) (T':TrD) (F':Nat->Prop),Z8t S i k S' T' (.yes d t)/\PagerAt W p F' S'/\Keeps F F' w W):=fun F' W r1 r2=>⟨Sr,.yes (m+1) tt,F',HFIN.out _ _ (HSS.out.fin _ _ (.inl ⟨h1,rfl,rfl⟩)),r1,r2⟩;have HKR:=hD HSS.out.keep;generalize Z0c (m+1) tt=n at *;have T1:decide ((1:Int)<(n.kids.length:Int))=true:=aN;clear q1 q2 HSS HFIN hkl hkn h1 hmany;generalize atT (m+1) tt=ac at *;go_wp2_with (go_at_call 82;(with_reducible refine cL.mono ?_);clear cL;rintro e w5 ⟨kA,kn,kc,vA,vn,vc,cA,cn,cc,B5,F5,rfl,hn5,hp5,hk5,_,_,_⟩;obtain⟨cA',cc',hcv⟩:=OwnL.form hn5.kids;injection hcv with e1 e2 e3;subst e1 e2 e3;have HP5:=hD hp5;have HK5:=hD (HKR.out.trans hk5);clear hn5 hp5 hk5);go_ret;exact⟨rfl,HEND.out _ _ (HP5.out.ext (Ext.alloc _ _)) (HK5.out.ext (Ext.alloc _ _))⟩
      ·obtain⟨c,hc⟩:∃c,InT.kids tt= [c]:=List.length_eq_one_iff.1 (by omega);obtain⟨y1,y2,y3,y4,y5⟩:=V5v HI.out HSS.out.fm HSS.out.on HSS.out.nd hc;have hcm:c∈InT.kids tt:=by rw[hc];exact List.mem_cons_self
       have HNEW:Hid (∀F' W,PagerAt W p F' (useP (Z0q Sr i (atT m c)) (InT.at_ tt) false)->Keeps F F' w W->ShS p i d S1 t1 F w m c (useP (Z0q Sr i (atT m c)) (InT.at_ tt) false) F' W):=fun F' W r1 r2=>⟨r1,r2,y2,HSS.out.ok.2.2.2.1 c hcm,y3,y1,fun S' T' q=>HSS.out.fin _ _ (.inr ⟨c,hc,q⟩)⟩;have HKR:=hD HSS.out.keep;have HY4:=hD y4;have HY5:=hD y5;have hk0:(Z0c (m+1) tt).kids= [(atT m c:Int)]:=by show(InT.kids tt).map _=_;rw[hc];rfl
       have HK0:=hD hk0;have hata:atT (m+1) tt=InT.at_ tt:=rfl;rw[hata]at cL ⊢;generalize Z0c (m+1) tt=n at *;clear q1 q2 HSS HFIN hkl hkn h1 hmany y1 y2 y3 y4 y5 hc hcm hk0 hata;generalize InT.at_ tt=ac at *;obtain⟨bc,hbc⟩:∃bc,atT m c=bc:=⟨_,rfl⟩;rw[hbc]at HNEW HY4 HY5 HK0;have HBC:=hD hbc;clear hbc;have T2:(0:Int)<(1:Int):=by omega
       go_upto_region 15 with (go_at_call 82;(with_reducible refine cL.mono ?_);clear cL;rintro e w5 ⟨kA,kn,kc,vA,vn,vc,cA,cn,cc,B5,F5,rfl,hn5,hp5,hk5,hB5,hF5,hBW5⟩;obtain⟨g5,cc5,hcv,hg5,hgc5⟩:=Z6p hn5.kids 0 (by rw[HK0.out];simp);rw[HK0.out]at hgc5 hcv;injection hcv with e1 e2 e3;subst e1 e2 e3;have HP5:=hD hp5;have HK5:=hD (HKR.out.trans hk5);have HN5:=hD hn5;have HF5:=hD hF5;have HBW5:=hD hBW5;have HGC:=hD hgc5;clear hn5 hp5 hk5 hF5 hgc5);obtain⟨q1,q2⟩:=HX.out _ _ HK5.out;generalize jH:w5.heap.size=D at *;generalize hW6:World.alloc w5 _=W6;have HX6:Hid (Ext w5 W6):=by unfold Hid;rw[<-hW6];exact Ext.alloc _ _
       have HRD:Hid (Row1 W6 D 166 [.bool false,.slice kA kn kc,.slice vA vn vc,.slice (some ⟨g5,0,none⟩) 1 cc]):=by unfold Hid;rw[<-hW6,<-jH];exact Row1.made w5 _ _
       have HT6:Hid (Z0b W6 tr p i):=q1.ext HX6.out q1.lt;have HN6:Hid (¬F5 tr):=q2;have HP6:Hid (PagerAt W6 p F5 Sr):=HP5.out.ext HX6.out;have hg6:g5<W6.heap.size:=aE (show g5<w5.heap.size by rw[jH];exact hg5) HX6.out.size;have HG6:Hid (W6.cell? ⟨g5,0,none⟩=some (.int .i64 (bc:Int))):=(HX6.out.cell (p:=⟨g5,0,none⟩) (show g5<w5.heap.size by rw[jH];exact hg5)).trans HGC.out;have HNF:Hid (¬F5 D/\¬F5 g5):=⟨fun q=>by have:=HF5.out _ q;have:=HBW5.out;omega,fun q=>by have:=HF5.out _ q;have:B5<=g5:=HN5.out.fc g5 rfl;omega⟩;have HCD:Hid (∀(F':Nat->Prop) (W W' W'':World),Ext W6 W->Keeps F5 F' W W'->Ext W' W''->W''.cell? ⟨tr,0,none⟩=some (tp p)/\W''.cell? ⟨tr,1,none⟩=some (.int .i64 (i:Int))/\W''.cell? ⟨D,3,none⟩=some (.slice (some ⟨g5,0,none⟩) 1 cc)/\W''.cell? ⟨g5,0,none⟩=some (.int .i64 (bc:Int))):=fun F' W W' W'' hx hk hx2=>by have r1:=hk.only.row (HT6.out.ext hx HT6.out.lt) HN6.out;have r2:=hk.only.row (HRD.out.ext hx HRD.out.lt) HNF.out.1;have r1':=r1.ext hx2 r1.lt;have r2':=r2.ext hx2 r2.lt;have hl:g5<W.heap.size:=aE hg6 hx.size;exact⟨r1'.cell 0,r1'.cell 1,r2'.cell 3,(hx2.cell (p:=⟨g5,0,none⟩) (aE hl hk.only.size)).trans ((hk.only.cell hl HNF.out.2).trans ((hx.cell (p:=⟨g5,0,none⟩) hg6).trans HG6.out))⟩
       have cSR:Hid (∀W,Ext W6 W->cQ 83 #[tp p,.int .i64 i,.int .i64 bc] W fun e w'=>e= .returned (.int .i64 0)/\∃F',PagerAt w' p F' (Z0q Sr i bc)/\Keeps F5 F' W w'):=fun W hW=>Z6g i bc W (HP6.out.ext hW) HI.out (.inr HY4.out);clear q1 q2 hW6 jH hg5 hB5 hBW5;refine wp_region_held_drew (S:=fun W=>W.cell? ⟨tr,0,none⟩=some (tp p)/\W.cell? ⟨tr,1,none⟩=some (.int .i64 (i:Int))/\W.cell? ⟨D,3,none⟩=some (.slice (some ⟨g5,0,none⟩) 1 cc)/\W.cell? ⟨g5,0,none⟩=some (.int .i64 (bc:Int))) (by kernel_rfl) (HCD.out F5 W6 W6 _ (Ext.refl _) Keeps.refl (by exact Xt)) (fun hHeld=> ?_);refine' tk 0 ?_;refine' tk 1 ?_;refine' tk 2 ?_;refine' tk 3 ?_;refine' tk 4 ?_;refine' tk 5 ?_;refine' tk 6 ?_;refine' tk 7 ?_;refine' tk 8 ?_;refine' tk 9 ?_;refine' tk 10 ?_;refine' tk 11 ?_;refine stp 12 (fun K hK=> ?_);go_simp
       (with_reducible refine(cSR.out _ ?_).mono ?_)
       ·exact Xt
       rintro e w7 ⟨rfl,F7,hp7,hk7⟩;have HP7:=hD hp7;have HK7:=hD hk7;clear hp7 hk7
       (try dsimp only)
       (try go_simp)
       refine hK.out _ _ (HCD.out _ _ _ _ (Below.drew (Ext.refl _)) HK7.out (Ext.refl _)) (fun hHeld=> ?_);clear hK K;refine pt ?_;refine' tk 13 ?_;refine wpAnyH_done (by kernel_rfl) ?_ _;have hc7:=HCD.out _ _ _ _ (Below.drew (Ext.refl _)) HK7.out (Ext.refl _);obtain⟨t0,_,_,_⟩:=hc7;have cFr:=Y3y ac w7 HP7.out HY5.out;have HCE:Hid (∀(F':Nat->Prop) (W':World),Keeps F7 F' w7 W'->W'.cell? ⟨D,3,none⟩=some (.slice (some ⟨g5,0,none⟩) 1 cc)/\W'.cell? ⟨g5,0,none⟩=some (.int .i64 (bc:Int))):=fun F' W' hk=>by obtain⟨_,_,r3,r4⟩:=HCD.out _ _ _ _ (Below.drew (Ext.refl _)) (HK7.out.trans hk) (Ext.refl _);exact⟨r3,r4⟩
       go_wp2_with (go_at_call 84;(with_reducible refine cFr.mono ?_);clear cFr;rintro e w8 ⟨rfl,F8,hp8,hk8⟩;obtain⟨r3,r4⟩:=HCE.out _ _ hk8;have HP8:=hD hp8;have HK8:=hD hk8;clear hp8 hk8)
       go_roundg m
       case measure=>omega
       case rel=>exact⟨c,_,F8,by rw[HBC.out],hD (HNEW.out F8 w8 HP8.out (((HK5.out.ext HX6.out).trans ((Keeps.of (Below.drew (Ext.refl _))).trans HK7.out)).trans HK8.out))⟩
def Y1q(ks:List ByteArray)(last:ByteArray)(j:Nat):ByteArray:=if j=0 then last else(ks[j-1]?).getD last
abbrev Y5i(w:World)(vb tr:Nat)(sl mp:Value)(dp:Int)(last:ByteArray)(any:Bool):Prop:=Row1 w vb 237 [tp tr,sl,mp,.int .i64 dp,.string last,.bool any,.bool false]
theorem X9h{vb tr:Nat}{Gn:Nat->Prop}{A:Option Addr}{B:Option Nat}{pn pc:Nat}{kv vv cv:Value}(n:NodeD)(deep:Nat)(dp:Int)(last:ByteArray)(any:Bool)(w:World)(hr:Y5i w vb tr (.slice A pn pc) (.map B) dp last any)(hn:NodeAs w Gn n kv vv cv)(hG:¬Gn vb)
 (hd:dp=0\/dp=deep)(hd0:0<deep)(hd1:deep<=100)(hrise:Z3l n.keys)(hlast:any=true->∀k∈n.keys,ltB last k=true)(hk:∀k∈n.keys,0<k.size)(hv:n.vals.length=n.keys.length)(hvs:∀v∈n.vals,v.size<=80)(hm:n.keys.length<=255):
  cQ 216 #[tp vb,.agg #[.bool n.leaf,kv,vv,cv],.int .i64 deep] w fun e w'=>(∃v,e= .returned v)/\Y5i w' vb tr (.slice A pn pc) (.map B) deep (Y1q n.keys last n.keys.length) (any || decide (0<n.keys.length))/\Only (fun i=>i=vb) w w':=by
 obtain⟨kA,kc,rfl⟩:=OwnL.form hn.keys;obtain⟨vA,vc,rfl⟩:=OwnL.form hn.vals;obtain⟨cA,cc,rfl⟩:=OwnL.form hn.kids;obtain⟨W0,hW0⟩:∃W0,w.alloc (.cells #[.bool n.leaf,.slice kA n.keys.length kc,.slice vA n.vals.length vc,.slice cA n.kids.length cc] 166)=W0:=⟨_,rfl⟩;have HX0:Hid (Ext w W0):=by unfold Hid;rw[<-hW0];exact Ext.alloc _ _
 have HRD:Hid (Row1 W0 w.heap.size 166 [.bool n.leaf,.slice kA n.keys.length kc,.slice vA n.vals.length vc,.slice cA n.kids.length cc]):=by unfold Hid;rw[<-hW0];exact Row1.made w _ _
 have hr0:=hr.ext HX0.out hr.lt;have HR0:=hD hr0;have HNA:=hD (hn.ext HX0.out);have HNG:=hD hG;have HND:Hid (w.heap.size≠vb):=fun e=>by have:=hr.lt;omega
 have p3:W0.cell? ⟨vb,3,none⟩=some (.int .i64 dp):=hr0.cell 3;have f3:W0.frozen? ⟨vb,3,none⟩=false:=hr0.soft 3;have T1:((deep:Int)==0)=false:=by simp;omega
 have T2:((deep:Int)!=deep)=false:=by simp
 have HLAST:=hD hlast;have HRI:=hD hrise;have HKN:=hD hk;have HVL:=hD hv;have HVS:=hD hvs;clear hr hn hG hlast hrise hk hv hvs hr0;go_enter Tryz.func216,Tryz.ntmps216;go_upto_region 1 with fail;clear hW0;generalize jH:w.heap.size=D at *
 go_upto_if 12 with fail
 go_cut [4] (fun v wx=>v= tp D/\Y5i wx vb tr (.slice A pn pc) (.map B) deep last any/\Only (fun i=>i=vb) W0 wx)
 case first=>
  rcases hd with rfl | rfl
  ·go_wp2_with fail
   go_meet
   exact⟨rfl,HR0.out.set 3 _,Only.setCell (F:=fun i=>i=vb) (p:=⟨vb,3,none⟩) Only.refl (.inl rfl) _⟩
  ·go_wp2_with fail
   go_meet
   exact⟨rfl,HR0.out,Only.refl⟩
 case rest=>
 obtain⟨rfl,hrc,hoc⟩:=hcut;have p3c:wc.cell? ⟨vb,3,none⟩=some (.int .i64 deep):=hrc.cell 3;have hrd:=hoc.row HRD.out HND.out;have d1:wc.cell? ⟨D,1,none⟩=some (.slice kA n.keys.length kc):=hrd.cell 1;have HRC:=hD hrc;have HOC:=hD hoc;clear hrc hoc p3 f3 hrd;go_wp2_with fail
 go_loopw [29] (fun x wr=>∃j:Nat,j<=n.keys.length/\x= .int .i64 j/\Hid (Y5i wr vb tr (.slice A pn pc) (.map B) deep (Y1q n.keys last j) (any || decide (0<j))/\Only (fun i=>i=vb) W0 wr)) (fun x _=>n.keys.length-(intOf x).toNat)
 case atStart=>exact⟨0,Nat.zero_le _,rfl,hD ⟨by simpa [Y1q]using HRC.out,HOC.out⟩⟩
 case round=>
  obtain⟨j,hj,rfl,HS⟩:=hrel;by_cases hjk:j<n.keys.length
  ·have q1:decide ((j:Int)<(n.keys.length:Int))=true:=aN;obtain⟨gk,kc',hkv,hgl,hkc⟩:=Z4h HNA.out.keys j hjk;obtain⟨gv,vc',hvv,hvl,hvc⟩:=Z4h HNA.out.vals j (by rw[HVL.out];exact hjk);injection hkv with e1 e2 e3;injection hvv with f1 f2 f3;subst e1 e3 f1 f3;obtain⟨k,hk⟩:∃k,n.keys[j]? =some k:=⟨_,aB hjk⟩;obtain⟨v,hv⟩:∃v,n.vals[j]? =some v:=⟨_,aB (by rw[HVL.out];exact hjk)⟩;rw[hk]at hkc;rw[hv]at hvc;simp only[Option.getD_some]at hkc hvc;have hoc:=HS.out.2;have k1:wr.cell? ⟨gk,j,none⟩=some (.string k):=(hoc.cell hgl (fun e=>HNG.out (e▸HNA.out.fk gk rfl))).trans hkc;have k2:wr.cell? ⟨gv,j,none⟩=some (.string v):=(hoc.cell hvl (fun e=>HNG.out (e▸HNA.out.fv gv rfl))).trans hvc;have hrd:=hoc.row HRD.out HND.out;have d2:wr.cell? ⟨D,2,none⟩=some (.slice (some ⟨gv,0,none⟩) n.vals.length vc):=hrd.cell 2;have hkm:k∈n.keys:=List.mem_of_getElem? hk;have hk0:=HKN.out k hkm;have hv0:=HVS.out v (List.mem_of_getElem? hv);have q2:(j:Int)<(n.vals.length:Int):=by rw[HVL.out];omega
   have q3:decide ((80:Int)<(v.size:Int))=false:=aM;have hjl:j<=255:=by omega
   have hlt:(any || decide (0<j))=true->ltB (Y1q n.keys last j) k=true:=fun q=>by
    unfold Y1q;by_cases h0:j=0
    ·rw[if_pos h0];have ha:any=true:=by rw[h0]at q;simpa using q
     exact HLAST.out ha k hkm
    ·rw[if_neg h0];have hp:n.keys[j-1]? =some (n.keys[j-1]'(by omega)):=aB (by omega);rw[hp,Option.getD_some];have hke:n.keys[j]'hjk=k:=by rw[aB hjk]at hk;injection hk
     rw[<-hke];exact List.pairwise_iff_getElem.1 HRI.out (j-1) j (by omega) hjk (by omega)
   have hnext:Y1q n.keys last (j+1)=k:=by unfold Y1q;rw[if_neg (by omega),Nat.add_sub_cancel,hk];rfl
   obtain⟨aj,haj⟩:∃aj,(any || decide (0<j))=aj:=⟨_,rfl⟩;obtain⟨lj,hlj⟩:∃lj,Y1q n.keys last j=lj:=⟨_,rfl⟩;have hS1:=HS.out.1;rw[haj,hlj]at hS1;rw[haj,hlj]at hlt;have r5:wr.cell? ⟨vb,5,none⟩=some (.bool aj):=hS1.cell 5;have r4:wr.cell? ⟨vb,4,none⟩=some (.string lj):=hS1.cell 4;have g5:wr.frozen? ⟨vb,5,none⟩=false:=hS1.soft 5;have g4:wr.frozen? ⟨vb,4,none⟩=false:=hS1.soft 4;have HS1:=hD hS1;have HOC2:=hD hoc;have HNX:=hD hnext;have hkk:¬k.toList= []:=Y9r hk0;have hkE:k.toList.isEmpty=false:=by
    cases e:k.toList with
    | nil=>exact absurd e hkk
    | cons _ _=>rfl
   have q4:decide ((80:Nat)<v.size)=false:=aM;clear hk hv hkc hvc hgl hvl hkm hrd hnext haj hlj hS1 hoc HS hk0 hv0;cases aj with
   | true=>
     have hb:Op.bytesLess lj.toList k.toList=true:=hlt rfl;have hb1:Op.bytesLess k.toList lj.toList=false:=Z3f (hlt rfl);have hb2:(k.toList==lj.toList)=false:=Z2i (fun e=>Z2l (hlt rfl) e.symm);have hb3:¬k.toList=lj.toList:=fun e=>by rw[e]at hb2;simp at hb2
     go_wp2_with fail
     go_roundw
     case rel=>exact⟨j+1,by omega,by go_num,hD ⟨by
      rw[HNX.out,show(any || decide (0<j+1))=true by simp];exact(HS1.out.set 4 _).set 5 _,HOC2.out.trans' ((Only.setCell (F:=fun i=>i=vb) (p:=⟨vb,4,none⟩) Only.refl (.inl rfl) _).setCell (p:=⟨vb,5,none⟩) (.inl rfl) _)⟩⟩
     case measure=>simp only[intOf];omega
   | false=>
     go_wp2_with fail
     go_roundw
     case rel=>exact⟨j+1,by omega,by go_num,hD ⟨by
      rw[HNX.out,show(any || decide (0<j+1))=true by simp];exact(HS1.out.set 4 _).set 5 _,HOC2.out.trans' ((Only.setCell (F:=fun i=>i=vb) (p:=⟨vb,4,none⟩) Only.refl (.inl rfl) _).setCell (p:=⟨vb,5,none⟩) (.inl rfl) _)⟩⟩
     case measure=>simp only[intOf];omega
  ·obtain rfl:j=n.keys.length:=by omega
   go_wp2_with fail
   go_end0
   exact⟨⟨_,rfl⟩,HS.out.1,(Only.of HX0.out).trans HS.out.2 (fun i q=> .inl q)⟩
def encT(b:Bool):Value:= .bool b
def metF(P:List Nat):Int->Option Bool:=fun x=>if P.any (fun b=>(b:Int)==x)=true then some true else none
theorem U1d{P:List Nat}{a:Nat}(h:a∉P):metF P (a:Int)=none:=by
 unfold metF;rw[if_neg];rw[List.any_eq_true];rintro⟨b,hb,e⟩;have:(b:Int)=a:=eq_of_beq e;have:b=a:=by omega
 subst this;exact h hb
theorem V1w(P:List Nat)(a:Nat):updI (metF P) (a:Int) (some true)=metF (P++ [a]):=by
 funext x
 unfold metF updI;by_cases e:x=(a:Int)
 ·subst e;rw[if_pos rfl,if_pos];rw[List.any_append];simp
 ·rw[if_neg e];have:(P++ [a]).any (fun b=>(b:Int)==x)=P.any (fun b=>(b:Int)==x):=by
   rw[List.any_append];have:((a:Int)==x)=false:=by
    cases h:(a:Int)==x with
    | false=>rfl
    | true=>exact absurd (eq_of_beq h).symm e
   simp[this]
  rw[this]
theorem X7q{P:List Nat}(h:∀b∈P,b<1024):Small 1024 (metF P):=fun y hy=>by
 unfold metF at hy;by_cases e:P.any (fun b=>(b:Int)==y)=true
 ·rw[List.any_eq_true]at e;obtain⟨b,hb,e⟩:=e;have:(b:Int)=y:=eq_of_beq e;have:=h b hb;constructor<;>omega
 ·rw[if_neg e]at hy;cases hy
def Z7x(P:List Nat):List Int:=P.map (fun (b:Nat)=>(b:Int))
structure VisS (vb mb tr:Nat) (P:List Nat) (dp:Int) (last:ByteArray) (any:Bool) (G:Nat->Prop) (w:World):Prop where
 ex:∃A n c,Y5i w vb tr (.slice A n c) (.map (some mb)) dp last any/\OwnL w 0 3 1 encN (.slice A n c) (Z7x P)/\∀k,(Value.slice A n c).ownBlock=some k->G k
 map:MapI w 3 mb 1024 encT (metF P)
 gv:G vb
 gm:G mb
 lt:∀b∈P,b<1024
 nd:P.Nodup
theorem VisS.only{vb mb tr:Nat}{P:List Nat}{dp:Int}{last:ByteArray}{any:Bool}{G H:Nat->Prop}{w w':World}(h:VisS vb mb tr P dp last any G w)(ho:Only H w w')(hG:∀i,G i->¬H i):VisS vb mb tr P dp last any G w':=by obtain⟨A,n,c,h1,h2,h3⟩:=h.ex;exact⟨⟨A,n,c,ho.row h1 (hG _ h.gv),h2.only ho (fun k q=>hG k (h3 k q)),h3⟩,ho.map h.map (hG _ h.gm),h.gv,h.gm,h.lt,h.nd⟩
theorem VisS.ext{vb mb tr:Nat}{P:List Nat}{dp:Int}{last:ByteArray}{any:Bool}{G:Nat->Prop}{w w':World}(h:VisS vb mb tr P dp last any G w)(hb:Ext w w'):VisS vb mb tr P dp last any G w':=h.only (H:=fun _=>False) (Only.of hb) (fun _ _ q=>q)
theorem VisS.many{vb mb tr:Nat}{P:List Nat}{dp:Int}{last:ByteArray}{any:Bool}{G:Nat->Prop}{w:World}(h:VisS vb mb tr P dp last any G w):P.length<=1024:=Y8f h.nd h.lt
def Z9c(l:List KV)(last:ByteArray):ByteArray:=(l.getLast?.map (·.1)).getD last
theorem V2m(l r:List KV)(last:ByteArray):Z9c (l++r) last=Z9c r (Z9c l last):=by unfold Z9c;rw[List.getLast?_append];cases r.getLast? <;>simp
structure VisI (tr p i vb mb:Nat) (S:StoreD) (P:List Nat) (dp:Int) (last:ByteArray) (any:Bool) (F G:Nat->Prop) (w:World):Prop where
 tree:Z0b w tr p i
 nf:¬F tr
 ng:¬G tr
 pag:PagerAt w p F S
 vis:VisS vb mb tr P dp last any G w
 dis:Dis F G w
theorem VisI.ext{tr p i vb mb:Nat}{S:StoreD}{P:List Nat}{dp:Int}{last:ByteArray}{any:Bool}{F G:Nat->Prop}{w w':World}(h:VisI tr p i vb mb S P dp last any F G w)(hb:Ext w w'):VisI tr p i vb mb S P dp last any F G w':=
 ⟨h.tree.ext hb h.tree.lt,h.nf,h.ng,h.pag.ext hb,h.vis.ext hb,⟨fun i q=>aE (h.dis.1 i q) hb.size,fun i q=>⟨aE (h.dis.2 i q).1 hb.size,(h.dis.2 i q).2⟩⟩⟩
def VisP(tr p i vb mb:Nat)(S:StoreD)(P:List Nat)(dp:Nat)(last:ByteArray)(any:Bool)(F G:Nat->Prop)(w:World)(e:Ending)(w':World):Prop:=
 (∃v,e= .returned v)/\∃F' G':Nat->Prop,VisI tr p i vb mb S P dp last any F' G' w'/\Keeps (Un F G) (Un F' G') w w'
structure VisOk (S:StoreD) (d:Nat) (t:TT d) (deep:Nat) (P:List Nat) (dp:Int) (last:ByteArray) (any:Bool) (low high:ByteArray) (bound:Bool):Prop where
 on:onT S d t
 ok:okT d t
 nd:(Z0a d t).Nodup
 new:∀b∈Z0a d t,b∉P
 pos:0<deep
 dep:deep+d<=32
 dpt:dp=0\/dp=((deep+d:Nat):Int)
 lows:∀x∈allT d t,ltB x low=false
 highs:bound=true->∀x∈allT d t,ltB x high=true
 lasts:any=true->∀x∈Z0f d t,ltB last x.1=true
theorem Tryz.zeroB(w:World):(zeroValue 4).run Tryz.prog w= .ok (.bool false) w:=by kernel_rfl
def lowJ(ks:List ByteArray)(low:ByteArray)(j:Nat):ByteArray:=if j=0 then low else(ks[j-1]?).getD low
def Y2m(ks:List ByteArray)(high:ByteArray)(j:Nat):ByteArray:=(ks[j]?).getD high
def Z6r(ks:List ByteArray)(bound:Bool)(j:Nat):Bool:=bound || decide (j<ks.length)
theorem VisI.call{tr p i vb mb:Nat}{S:StoreD}{P:List Nat}{dp:Int}{last:ByteArray}{any:Bool}{F F' G:Nat->Prop}{w w':World}(h:VisI tr p i vb mb S P dp last any F G w)(hk:Keeps F F' w w')(hp:PagerAt w' p F' S)(hlt:∀i,F' i->i<w'.heap.size):VisI tr p i vb mb S P dp last any F' G w':=
 ⟨hk.only.row h.tree h.nf,hk.out h.tree.lt h.nf,h.ng,hp,h.vis.only hk.only (fun i q=>(h.dis.2 i q).2),⟨hlt,fun i q=>⟨aE (h.dis.2 i q).1 hk.only.size,hk.out (h.dis.2 i q).1 (h.dis.2 i q).2⟩⟩⟩
theorem X5d{F F' G:Nat->Prop}{w w':World}(h:Keeps F F' w w'):Keeps (Un F G) (Un F' G) w w':=⟨h.only.mono (fun i q=> .inl (.inl q)),fun i q=>q.elim (fun q=>(h.new i q).imp .inl id) (fun q=> .inl (.inr q))⟩
theorem Y5v{tr p i vb mb:Nat}{S:StoreD}{F G:Nat->Prop}(n:NodeD)(a deep:Nat)(P:List Nat)(dp:Int)(last low high:ByteArray)(any bound:Bool)(w:World)(hI:VisI tr p i vb mb S P dp last any F G w)(hp:PageN S a n)(hnew:a∉P)(ha1:a<1024)(hd1:deep<=32)(hd0:0<deep)
 (hrise:Z3l n.keys)(hk:∀k∈n.keys,ltB k low=false/\(bound=true->ltB k high=true)/\0<k.size/\k.size<=32)
 (hleaf:n.leaf=true->(dp=0\/dp=deep)/\(any=true->∀k∈n.keys,ltB last k=true)/\n.vals.length=n.keys.length/\∀v∈n.vals,v.size<=80)
 (PJ:Nat->List Nat)(DJ:Nat->Int)(LJ:Nat->ByteArray)(AJ:Nat->Bool)(h0:PJ 0=P++ [a]/\DJ 0=dp/\LJ 0=last/\AJ 0=any)
 (hkids:n.leaf=false->n.kids.length=n.keys.length+1/\∀j,j<n.kids.length->∃c:Nat,n.kids[j]? =some (c:Int)/\∀(W:World) (F G:Nat->Prop),VisI tr p i vb mb S (PJ j) (DJ j) (LJ j) (AJ j) F G W->
    cQ 189 #[tp vb,.int .i64 c,.int .i64 ((deep:Int)+1),.string (lowJ n.keys low j),.string (Y2m n.keys high j),.bool (Z6r n.keys bound j)] W fun e w'=>(∃v,e= .returned v)/\∃F' G':Nat->Prop,VisI tr p i vb mb S (PJ (j+1)) (DJ (j+1)) (LJ (j+1)) (AJ (j+1)) F' G' w'/\Keeps (Un F G) (Un F' G') W w'):
  cQ 189 #[tp vb,.int .i64 a,.int .i64 deep,.string low,.string high,.bool bound] w fun e w'=>(∃v,e= .returned v)/\∃(P':List Nat) (dp':Int) (last':ByteArray) (any':Bool) (F' G':Nat->Prop),
   ((n.leaf=true/\P'=P++ [a]/\dp'=deep/\last'=Y1q n.keys last n.keys.length/\any'=(any || decide (0<n.keys.length)))\/(n.leaf=false/\P'=PJ n.kids.length/\dp'=DJ n.kids.length/\last'=LJ n.kids.length/\any'=AJ n.kids.length))/\VisI tr p i vb mb S P' dp' last' any' F' G' w'/\Keeps (Un F G) (Un F' G') w w':=by
 obtain⟨A,m,c,hr,hown,hG⟩:=hI.vis.ex;have hlk:=hI.vis.map.look0 (t:=235) (e:=4) Tryz.underlying3 Tryz.underlying235 (Tryz.zeroB w) (U0c (n:=a) (by omega));rw[U1d hnew]at hlk;simp only[Option.map_none,Option.getD_none]at hlk;obtain⟨w1,hrun,hm1,hb1⟩:=hI.vis.map.storeT (t:=235) (e:=4) Tryz.underlying3 Tryz.underlying235 (by omega) (x:=a) ha1 (X7q hI.vis.lt) true (V:= .bool true) rfl;rw[V1w]at hm1;have ho1:Only (fun i=>i=mb) w w1:=Only.but hb1 (.inl rfl);have hr1:=ho1.row hr (hr.notMap hI.vis.map);have hown1:=hown.only ho1 (fun k q e=>hown.notMap hI.vis.map (by rw[q,e]));have c2:w.cell? ⟨vb,2,none⟩=some (.map (some mb)):=hr.cell 2;have q1:decide ((32:Int)<(deep:Int))=false:=aM;have hlenP:(Z7x P).length=P.length:=List.length_map _;have hmany:=hI.vis.many;obtain⟨A0,c0,hv0⟩:=OwnL.form hown;injection hv0 with e5 hm2 e6;subst e5 e6;have HI:=hD hI;have HR1:=hD hr1;have HOWN1:=hD hown1;have HM1:=hD hm1;have HO1:=hD ho1;have HG:=hD hG;have hcP:Z7x P++ [(a:Int)]=Z7x (P++ [a]):=by unfold Z7x;rw[List.map_append];rfl
 have HCP:Hid (Z7x P++ [(a:Int)]=Z7x (P++ [a])/\(Z7x (P++ [a])).length=m+1):=⟨hcP,by rw[<-hcP,aA,hm2];rfl⟩;have HMC:Hid (m<=1024/\(Z7x P).length=m):=⟨by omega,hm2.symm⟩;have HNM:Hid (vb≠mb/\∀k,(Value.slice A m c).ownBlock=some k->k≠mb/\k≠vb):=⟨hr.notMap hI.vis.map,fun k q=>⟨fun e=>hown.notMap hI.vis.map (by rw[q,e]),fun e=>hown.apartRow hr (by decide) (by rw[q,e])⟩⟩;have HND:Hid ((P++ [a]).Nodup/\∀b∈P++ [a],b<1024):=⟨List.nodup_append.2 ⟨hI.vis.nd,by simp,fun x hx y hy e=>by rw[List.mem_singleton]at hy;subst hy;subst e;exact hnew hx⟩,fun b hb=>by
  rcases List.mem_append.1 hb with q | q
  ·exact hI.vis.lt b q
  ·rw[List.mem_singleton]at q;omega⟩
 have e1:w1.cell? ⟨vb,1,none⟩=some (.slice A m c):=hr1.cell 1;have HPG:=hD hp;have HRI:=hD hrise;have HKS:=hD hk;have HLE:=hD hleaf;have HKD:=hD hkids;have H0:=hD h0;have HVL:=hD hr.lt;clear hI hp hnew hrise hk hleaf hkids h0 hr hown hG hm1 hb1 ho1 hr1 hown1 hlenP hmany hm2 hcP;go_enter Tryz.func189,Tryz.ntmps189;go_upto_region 4 with (at_builtin;go_loud (refine Z0u elInt Z0j Z2s rfl (.tmp 43) (.tmp 45) rfl (.slice A m c) (Z7x P) rfl (HOWN1.out.ext (by exact Xt)) (Nat.zero_le _) _ 1 (a:Int) rfl (Row1.made' (by simp) _ (encN (a:Int))) (by have:=HMC.out;omega) (by decide) ?_;intro A3 c3 w3 hown3 hgr3 hwh3;rw[HCP.out.1,HCP.out.2]at hown3;rw[HCP.out.1,HCP.out.2]at hwh3;rw[HCP.out.1,HCP.out.2];have ho3:=(fun (hx:Ext w1 _)=>(Only.of hx).trans' (Only.grown hgr3)) (by exact Xt);have hr3:=ho3.row HR1.out (fun q=>(HNM.out.2 _ q).2 rfl);have g3:w3.cell? ⟨vb,1,none⟩=_:=hr3.cell 1;have vf3:w3.frozen? ⟨vb,1,none⟩=false:=hr3.soft 1));have hr4:Y5i (w3.setCell ⟨vb,1,none⟩ (.slice A3 (m+1) c3)) vb tr (.slice A3 (m+1) c3) (.map (some mb)) dp last any:=hr3.set 1 _;have ho4:Only (fun i=>i=vb) w3 (w3.setCell ⟨vb,1,none⟩ (.slice A3 (m+1) c3)):=Only.setCell (F:=fun i=>i=vb) (p:=⟨vb,1,none⟩) Only.refl (.inl rfl) _;generalize World.setCell _ _ _=w4 at hr4 ho4 ⊢;have hz01:=HO1.out.size;have hz13:=ho3.size;have hz34:=ho4.size;have hwh:∀k,(Value.slice A3 (m+1) c3).ownBlock=some k->(Value.slice A m c).ownBlock=some k\/w1.heap.size<=k:=fun k q=>(hwh3 k q).imp id (fun r=>by simp at r;omega);obtain⟨G4,hG4⟩:∃G4:Nat->Prop,G4=fun i=>G i\/(w.heap.size<=i/\i<w4.heap.size):=⟨_,rfl⟩;have hnm:=HNM.out;have hgv:=HI.out.vis.gv;have hgm:=HI.out.vis.gm;have hdis:=HI.out.dis;have hol:Only G w w4:=((HO1.out.mono (fun i q=> .inl (by rw[q];exact hgm))).trans' (ho3.mono (fun i q=> .inl (HG.out i q)))).trans' (ho4.mono (fun i q=> .inl (by rw[q];exact hgv)));have hI4:VisI tr p i vb mb S (P++ [a]) dp last any F G4 w4:=by
  refine⟨hol.row HI.out.tree HI.out.ng,HI.out.nf,fun q=> ?_,HI.out.pag.only hol (fun i q r=>(hdis.2 i r).2 q),⟨⟨A3,m+1,c3,hr4,hown3.only ho4 (fun k q e=> ?_),fun k q=> ?_⟩,ho4.map (ho3.map HM1.out (fun q=>(hnm.2 _ q).1 rfl)) (fun q=>hnm.1 q.symm),by rw[hG4];exact .inl hgv,by rw[hG4];exact .inl hgm,HND.out.2,HND.out.1⟩,⟨fun i q=>by have:=hdis.1 i q;omega,fun i q=> ?_⟩⟩
  ·rw[hG4]at q;rcases q with q | q
   ·exact HI.out.ng q
   ·have:=HI.out.tree.lt;omega
  ·subst e;rcases hwh _ q with r | r
   ·exact(hnm.2 _ r).2 rfl
   ·have:=HVL.out;omega
  ·rw[hG4];rcases hwh _ q with r | r
   ·exact .inl (HG.out k r)
   ·exact .inr ⟨by omega,by have:=(hown3.lt k q).2;omega⟩
  ·rw[hG4]at q;rcases q with q | q
   ·exact⟨by have:=(hdis.2 i q).1;omega,(hdis.2 i q).2⟩
   ·exact⟨q.2,fun r=>by have:=hdis.1 i r;omega⟩
 have HK4:Hid (Keeps (Un F G) (Un F G4) w w4):=⟨hol.mono (fun i q=> .inl (.inr q)),fun i q=>by
  rcases q with q | q
  ·exact .inl (.inl q)
  ·rw[hG4]at q;exact q.elim (fun q=> .inl (.inr q)) (fun q=> .inr q.1)⟩
 have HI4:=hD hI4;have v0:w4.cell? ⟨vb,0,none⟩=some (tp tr):=hr4.cell 0;have cL:=Z1m a n w4 hI4.tree hI4.pag HPG.out;clear hr4 ho4 hwh hG4 hnm hgv hgm hdis hol hI4 hown3 hgr3 hwh3 ho3 hr3 g3 vf3 hrun hlk c2 e1;obtain⟨lf,hlf⟩:∃lf,n.leaf=lf:=⟨_,rfl⟩;rw[hlf]at cL;have HLF:=hD hlf;clear hlf;go_upto_region 7 with (go_at_call 82;(with_reducible refine cL.mono ?_);clear cL;rintro e w5 ⟨kA,kn,kc,vA,vn,vc,cA,cn,cc,B,F5,rfl,hn5,hp5,hk5,hB5,hF5,hBW5⟩);obtain⟨_,_,hv⟩:=OwnL.form hn5.keys;injection hv with r1 r2 r3;subst r1 r2 r3;obtain⟨_,_,hv⟩:=OwnL.form hn5.vals;injection hv with r1 r2 r3;subst r1 r2 r3;obtain⟨_,_,hv⟩:=OwnL.form hn5.kids;injection hv with r1 r2 r3;subst r1 r2 r3;generalize hW6:World.alloc w5 _=W6;have HX6:Hid (Ext w5 W6):=by unfold Hid;rw[<-hW6];exact Ext.alloc _ _
 have hb6:BoxG w5 W6 (fun j=>B<=j) w5.heap.size n (.slice kA n.keys.length kc) (.slice vA n.vals.length vc) (.slice cA n.kids.length cc):=by rw[<-hW6,<-HLF.out];exact BoxG.made hn5 (fun j q=>Nat.le_trans hBW5 q)
 have HK6:Hid (Keeps (Un F G) (Un F5 G4) w W6):=HK4.out.trans ((X5d hk5 (G:=G4)).ext HX6.out);have HI6:Hid (VisI tr p i vb mb S (P++ [a]) dp last any F5 G4 W6):=(HI4.out.call hk5 hp5 (fun i q=>by have:=hF5 i q;omega)).ext HX6.out;have HUB:Hid (∀i,Un F5 G4 i->¬B<=i):=fun i q r=>by
  rcases q with q | q
  ·have:=hF5 i q;omega
  ·have:=(HI4.out.dis.2 i q).1;omega
 have HB6:=hD hb6;have hDB:B<=w5.heap.size:=hBW5;generalize w5.heap.size=D at *;have d1:W6.cell? ⟨D,1,none⟩=some (.slice kA n.keys.length kc):=hb6.row.cell 1;have d0:W6.cell? ⟨D,0,none⟩=some (.bool lf):=by rw[hb6.row.cell,HLF.out];rfl
 have hkl:n.keys.length<=255:=HPG.out.ok.many;clear hn5 hp5 hk5 hF5 hB5 hBW5 hW6 hb6 v0;go_wp2_with fail
 go_loopw [66] (fun x wr=>∃j:Nat,j<=n.keys.length/\x= .int .i64 j/\W6=wr) (fun x _=>n.keys.length-(intOf x).toNat)
 case atStart=>exact⟨0,Nat.zero_le _,rfl,rfl⟩
 case round=>
  obtain⟨j,hj,rfl,rfl⟩:=hrel;by_cases hjk:j<n.keys.length
  ·have q2:decide ((j:Int)<(n.keys.length:Int))=true:=aN;have q2':(j:Int)<(n.keys.length:Int):=by omega
   obtain⟨gk,kc',hkv,hgl,hkc⟩:=Z4h HB6.out.own.keys j hjk;injection hkv with e1 e2 e3;subst e1 e3;obtain⟨k,hk⟩:∃k,n.keys[j]? =some k:=⟨_,aB hjk⟩;rw[hk]at hkc;simp only[Option.getD_some]at hkc;obtain⟨y1,y2,y3,y4⟩:=HKS.out k (List.mem_of_getElem? hk);have z1:Op.bytesLess k.toList low.toList=false:=y1;have z3:decide ((32:Int)<(k.size:Int))=false:=aM;have z4:decide ((32:Nat)<k.size)=false:=aM;have hprev:0<j->∃k',W6.cell? ⟨gk,j-1,none⟩=some (.string k')/\ltB k' k=true:=fun h0=>by
    obtain⟨gk2,kc2,hkv2,_,hkc2⟩:=Z4h HB6.out.own.keys (j-1) (by omega);injection hkv2 with e1 e2 e3;injection e1 with e1;injection e1 with e1;subst e1;rw[aB (show j-1<n.keys.length by omega)]at hkc2;have hke:n.keys[j]'hjk=k:=by rw[aB hjk]at hk;injection hk
    exact⟨_,hkc2,by rw[<-hke];exact List.pairwise_iff_getElem.1 HRI.out (j-1) j (by omega) hjk (by omega)⟩
   have HPREV:=hD hprev;have HY2:=hD y2;clear hprev y1 y2 y3 y4 hk hgl e2;by_cases hj0:j=0
   ·subst hj0;cases bound with
    | true=>
      have u1:Op.bytesLess k.toList high.toList=true:=HY2.out rfl;have u2:Op.bytesLess high.toList k.toList=false:=Z3f (HY2.out rfl);have u3:(k.toList==high.toList)=false:=Z2i (Z2l (HY2.out rfl));go_wp2_with fail
      go_roundw
      case rel=>exact⟨1,by omega,by go_num,trivial⟩
      case measure=>simp only[intOf];omega
    | false=>
      go_wp2_with fail
      go_roundw
      case rel=>exact⟨1,by omega,by go_num,trivial⟩
      case measure=>simp only[intOf];omega
   ·obtain⟨k',x1,x2⟩:=HPREV.out (by omega);have x3:Op.bytesLess k'.toList k.toList=true:=x2;have x4:Op.bytesLess k.toList k'.toList=false:=Z3f x2;have x5:(k.toList==k'.toList)=false:=Z2i (fun e=>Z2l x2 e.symm);have x6:¬k.toList=k'.toList:=fun e=>by rw[e]at x5;simp at x5
    have x7:decide ((0:Int)<(j:Int))=true:=aN;have x8:(0:Int)<(j:Int):=by omega
    have x9:IntKind.i64.wrap ((j:Int)-1)=(j:Int)-1:=by rw[IntKind.wrap_i64];omega
    have x10:(0:Int)<=(j:Int)-1:=by omega
    have x11:(j:Int)-1<(n.keys.length:Int):=by omega
    have x12:((j:Int)-1).toNat=j-1:=by omega
    clear x2;cases bound with
    | true=>
      have u1:Op.bytesLess k.toList high.toList=true:=HY2.out rfl;have u2:Op.bytesLess high.toList k.toList=false:=Z3f (HY2.out rfl);have u3:(k.toList==high.toList)=false:=Z2i (Z2l (HY2.out rfl));go_wp2_with fail
      go_roundw
      case rel=>exact⟨j+1,by omega,by go_num,trivial⟩
      case measure=>simp only[intOf];omega
    | false=>
      go_wp2_with fail
      go_roundw
      case rel=>exact⟨j+1,by omega,by go_num,trivial⟩
      case measure=>simp only[intOf];omega
  ·obtain rfl:j=n.keys.length:=by omega
   obtain⟨A6,m6,c6,hr6,ho6,hg6⟩:=HI6.out.vis.ex;have HR6:=hD hr6;have HO6:=hD ho6;have HG6:=hD hg6;have d2:W6.cell? ⟨D,2,none⟩=some (.slice vA n.vals.length vc):=HB6.out.row.cell 2;have d3:W6.cell? ⟨D,3,none⟩=some (.slice cA n.kids.length cc):=HB6.out.row.cell 3;clear hr6 ho6 hg6;cases lf with
   | true=>
     obtain⟨l1,l2,l3,l4⟩:=HLE.out HLF.out;have cV:=X9h n deep dp last any W6 HR6.out HB6.out.own (fun q=>HUB.out _ (.inr HI6.out.vis.gv) q) l1 hd0 (by omega) HRI.out l2 (fun k hk=>(HKS.out k hk).2.2.1) l3 l4 hkl;rw[HLF.out]at cV;have CV:=hD cV;clear cV l1 l2 l3 l4;go_wp2_with (go_at_call 216;(with_reducible refine CV.out.mono ?_);clear CV;rintro e w7 ⟨⟨v7,rfl⟩,hr7,ho7⟩;have HR7:=hD hr7;have HO7:=hD ho7;clear hr7 ho7);refine bodyPost_ret (results_none rfl _ _ _) rfl ?_;have h6:=HI6.out;have hvG:=h6.vis.gv;have hz:=HO7.out.size;refine⟨⟨_,rfl⟩,P++ [a],deep,Y1q n.keys last n.keys.length,(any || decide (0<n.keys.length)),F5,G4,.inl ⟨HLF.out,rfl,rfl,rfl,rfl⟩,⟨HO7.out.row h6.tree (fun e=>h6.ng (e▸hvG)),h6.nf,h6.ng,h6.pag.only HO7.out (fun i q e=>(h6.dis.2 i (e▸hvG)).2 q),⟨⟨A6,m6,c6,HR7.out,HO6.out.only HO7.out (fun k q e=>HO6.out.apartRow HR6.out (by decide) (e▸q)),HG6.out⟩,HO7.out.map h6.vis.map (fun e=>HR6.out.notMap h6.vis.map e.symm),hvG,h6.vis.gm,h6.vis.lt,h6.vis.nd⟩,⟨fun i q=>aE (h6.dis.1 i q) hz,fun i q=>⟨aE (h6.dis.2 i q).1 hz,(h6.dis.2 i q).2⟩⟩⟩,⟨HK6.out.only.trans HO7.out (fun i q=> ?_),HK6.out.new⟩⟩;rw[q];exact HK6.out.new vb (.inr hvG)
   | false=>
     obtain⟨hkn,hKC⟩:=HKD.out HLF.out;have HKC:=hD hKC;have HKNL:=hD hkn;have hkn6:n.kids.length<=256:=by omega
     have HSTART:Hid (VisI tr p i vb mb S (PJ 0) (DJ 0) (LJ 0) (AJ 0) F5 G4 W6):=by obtain⟨a1,a2,a3,a4⟩:=H0.out;unfold Hid;rw[a1,a2,a3,a4];exact HI6.out
     have HCELL:Hid (∀(F':Nat->Prop) (W:World),Keeps (Un F5 G4) F' W6 W->NodeAs W (fun j=>B<=j) n (.slice kA n.keys.length kc) (.slice vA n.vals.length vc) (.slice cA n.kids.length cc)/\W.cell? ⟨D,1,none⟩=some (.slice kA n.keys.length kc)/\W.cell? ⟨D,3,none⟩=some (.slice cA n.kids.length cc)):=fun F' W hk=>by have h1:=hk.only.row HB6.out.row (fun q=>HUB.out _ q HB6.out.bd);exact⟨HB6.out.own.only hk.only (fun i q r=>HUB.out i r q),h1.cell 1,h1.cell 3⟩
     clear hkn hKC;go_wp2_with fail
     go_loopw [114] (fun x wr=>∃(j:Nat) (Fj Gj:Nat->Prop),j<=n.kids.length/\x= .int .i64 j/\Hid (VisI tr p i vb mb S (PJ j) (DJ j) (LJ j) (AJ j) Fj Gj wr/\Keeps (Un F5 G4) (Un Fj Gj) W6 wr)) (fun x _=>n.kids.length-(intOf x).toNat)
     case atStart=>exact⟨0,F5,G4,Nat.zero_le _,rfl,hD ⟨HSTART.out,Keeps.refl⟩⟩
     case round=>
      obtain⟨j,Fj,Gj,hj,rfl,HSJ⟩:=hrel;by_cases hjk:j<n.kids.length
      ·have q2:decide ((j:Int)<(n.kids.length:Int))=true:=aN;have q2':(j:Int)<(n.kids.length:Int):=by omega
       obtain⟨hna,x1,x3⟩:=HCELL.out _ _ HSJ.out.2;obtain⟨g,cc',hcv,hgl,hgc⟩:=Z6p hna.kids j hjk;injection hcv with e1 e2 e3;subst e1 e3;obtain⟨ch,hch,hC⟩:=HKC.out j hjk;rw[hch]at hgc;simp only[Option.getD_some]at hgc;have cV:=hC wr Fj Gj HSJ.out.1;have HNA:=hD hna;have hdp:IntKind.i64.wrap ((deep:Int)+1)=(deep:Int)+1:=by rw[IntKind.wrap_i64];omega
       have HFIN:Hid (∀(W:World) (F' G':Nat->Prop),VisI tr p i vb mb S (PJ (j+1)) (DJ (j+1)) (LJ (j+1)) (AJ (j+1)) F' G' W->Keeps (Un Fj Gj) (Un F' G') wr W->Hid (VisI tr p i vb mb S (PJ (j+1)) (DJ (j+1)) (LJ (j+1)) (AJ (j+1)) F' G' W/\Keeps (Un F5 G4) (Un F' G') W6 W)):=fun W F' G' r1 r2=>hD ⟨r1,HSJ.out.2.trans r2⟩;have hkn1:n.kids.length<=n.keys.length+1:=Nat.le_of_eq HKNL.out;clear hna hch hC e2 hgl;by_cases hj0:j=0
       ·subst hj0;rw[show lowJ n.keys low 0=low from rfl]at cV;by_cases hjl:0<n.keys.length
        ·obtain⟨gk,kc',hkv,_,hkc⟩:=Z4h HNA.out.keys 0 hjl;injection hkv with e1 e2 e3;subst e1 e3;rw[show Y2m n.keys high 0=(n.keys[0]?.getD ⟨#[]⟩)by unfold Y2m;rw[aB hjl];rfl,show Z6r n.keys bound 0=true by unfold Z6r;simp[hjl]]at cV;have q3:decide ((0:Int)<(n.keys.length:Int))=true:=aN;have q3':(0:Int)<(n.keys.length:Int):=by omega
         generalize n.keys[0]?.getD ⟨#[]⟩=hk0 at *;have CV:=hD cV;clear cV e2;go_wp2_with (go_at_call 189;(with_reducible refine CV.out.mono ?_);clear CV;rintro e w8 ⟨⟨v8,rfl⟩,F8,G8,hi8,hk8⟩;have HN8:=HFIN.out _ _ _ hi8 hk8;clear hi8 hk8)
         go_roundw
         case rel=>exact⟨1,F8,G8,by omega,by go_num,HN8⟩
         case measure=>simp only[intOf];omega
        ·rw[show Y2m n.keys high 0=high by unfold Y2m;rw[List.getElem?_eq_none (by omega)];rfl,show Z6r n.keys bound 0=bound by unfold Z6r;simp[hjl]]at cV;have q3:decide ((0:Int)<(n.keys.length:Int))=false:=aM;have q3':¬(0:Int)<(n.keys.length:Int):=by omega
         have CV:=hD cV;clear cV;go_wp2_with (go_at_call 189;(with_reducible refine CV.out.mono ?_);clear CV;rintro e w8 ⟨⟨v8,rfl⟩,F8,G8,hi8,hk8⟩;have HN8:=HFIN.out _ _ _ hi8 hk8;clear hi8 hk8)
         go_roundw
         case rel=>exact⟨1,F8,G8,by omega,by go_num,HN8⟩
         case measure=>simp only[intOf];omega
       ·have x7:decide ((0:Int)<(j:Int))=true:=aN;have x8:(0:Int)<(j:Int):=by omega
        have x9:IntKind.i64.wrap ((j:Int)-1)=(j:Int)-1:=by rw[IntKind.wrap_i64];omega
        have x10:(0:Int)<=(j:Int)-1:=by omega
        have x11:(j:Int)-1<(n.keys.length:Int):=by omega
        have x12:((j:Int)-1).toNat=j-1:=by omega
        obtain⟨gk,kc',hkv,_,hkc⟩:=Z4h HNA.out.keys (j-1) (by omega);injection hkv with e1 e2 e3;subst e1 e3;have HLOW:Hid (lowJ n.keys low j=n.keys[j-1]?.getD ⟨#[]⟩):=by unfold Hid lowJ;rw[if_neg hj0,aB (show j-1<n.keys.length by omega)];rfl
        rw[HLOW.out]at cV;by_cases hjl:j<n.keys.length
        ·obtain⟨gk2,kc2,hkv2,_,hkc2⟩:=Z4h HNA.out.keys j hjl;injection hkv2 with f1 f2 f3;injection f1 with f1;injection f1 with f1;subst f1;rw[show Y2m n.keys high j=(n.keys[j]?.getD ⟨#[]⟩)by unfold Y2m;rw[aB hjl];rfl,show Z6r n.keys bound j=true by unfold Z6r;simp[hjl]]at cV;have q3:decide ((j:Int)<(n.keys.length:Int))=true:=aN;have q3':(j:Int)<(n.keys.length:Int):=by omega
         have CV:=hD cV;clear cV e2 f2 f3;generalize n.keys[j]?.getD ⟨#[]⟩=hk0 at *;generalize n.keys[j-1]?.getD ⟨#[]⟩=hk1 at *;go_wp2_with (go_at_call 189;(with_reducible refine CV.out.mono ?_);clear CV;rintro e w8 ⟨⟨v8,rfl⟩,F8,G8,hi8,hk8⟩;have HN8:=HFIN.out _ _ _ hi8 hk8;clear hi8 hk8)
         go_roundw
         case rel=>exact⟨j+1,F8,G8,by omega,by go_num,HN8⟩
         case measure=>simp only[intOf];omega
        ·rw[show Y2m n.keys high j=high by unfold Y2m;rw[List.getElem?_eq_none (by omega)];rfl,show Z6r n.keys bound j=bound by unfold Z6r;simp[hjl]]at cV;have q3:decide ((j:Int)<(n.keys.length:Int))=false:=aM;have q3':¬(j:Int)<(n.keys.length:Int):=by omega
         have CV:=hD cV;clear cV e2;generalize n.keys[j-1]?.getD ⟨#[]⟩=hk1 at *;go_wp2_with (go_at_call 189;(with_reducible refine CV.out.mono ?_);clear CV;rintro e w8 ⟨⟨v8,rfl⟩,F8,G8,hi8,hk8⟩;have HN8:=HFIN.out _ _ _ hi8 hk8;clear hi8 hk8)
         go_roundw
         case rel=>exact⟨j+1,F8,G8,by omega,by go_num,HN8⟩
         case measure=>simp only[intOf];omega
      ·obtain rfl:j=n.kids.length:=by omega
       go_wp2_with fail
       go_end0
       exact⟨⟨_,rfl⟩,_,_,_,_,Fj,Gj,.inr ⟨HLF.out,rfl,rfl,rfl,rfl⟩,HSJ.out.1,HK6.out.trans HSJ.out.2⟩
theorem V2l{ks vs:List ByteArray}(hl:vs.length=ks.length)(last:ByteArray):Y1q ks last ks.length=Z9c (ks.zip vs) last:=by
 unfold Y1q Z9c;rw[List.getLast?_eq_getElem?,List.length_zip,hl,Nat.min_self];by_cases h:ks.length=0
 ·rw[if_pos h,List.getElem?_eq_none (by rw[List.length_zip];omega)];rfl
 ·rw[if_neg h];have h1:ks[ks.length-1]? =some (ks[ks.length-1]'(by omega)):=aB (by omega);have h2:(ks.zip vs)[ks.length-1]? =some (ks[ks.length-1]'(by omega),vs[ks.length-1]'(by omega)):=by rw[List.getElem?_zip_eq_some];exact⟨h1,aB (by omega)⟩
  rw[h1,h2];rfl
theorem X8x{ks vs:List ByteArray}(hl:vs.length=ks.length):decide (0<ks.length)= !(ks.zip vs).isEmpty:=by
 cases ks with
 | nil=>simp
 | cons k r=>cases vs with
   | nil=>simp at hl
   | cons v q=>simp
theorem X6i{tr p i vb mb:Nat}{S:StoreD}(hm:S.head.pages<=1024)(t:TT 0)(deep:Nat)(P:List Nat)(dp:Int)(last low high:ByteArray)(any bound:Bool)(F G:Nat->Prop)(w:World)(hI:VisI tr p i vb mb S P dp last any F G w)(hO:VisOk S 0 t deep P dp last any low high bound):
  cQ 189 #[tp vb,.int .i64 (atT 0 t),.int .i64 deep,.string low,.string high,.bool bound] w (VisP tr p i vb mb S (P++Z0a 0 t) (deep+0) (Z9c (Z0f 0 t) last) (any || !(Z0f 0 t).isEmpty) F G w):=by
 have hap:=Z0r 0 t;have hgv:=Z0l 0 t hO.on _ hap;obtain⟨k1,k2,k3,k4⟩:=hO.ok;have hlt:∀k∈LeafT.keys t,∃x∈Z0f 0 t,x.1=k:=fun k hk=>by obtain⟨i,hi,e⟩:=List.getElem_of_mem hk;refine⟨((LeafT.keys t)[i],(LeafT.vals t)[i]'(by omega)),?_,e⟩;show _∈(LeafT.keys t).zip (LeafT.vals t);exact List.mem_of_getElem? (List.getElem?_zip_eq_some.2 ⟨aB hi,aB (by omega)⟩)
 refine(Y5v (Z0c 0 t) (atT 0 t) deep P dp last low high any bound w hI hO.on (hO.new _ hap) (by have:=hgv.2.1;omega) (by have:=hO.dep;omega) hO.pos k1 (fun k hk=>⟨hO.lows k hk,fun hb=>hO.highs hb k hk,(k3 k hk).1,(k3 k hk).2⟩)
  (fun _=>⟨hO.dpt,fun ha k hk=>by obtain⟨x,hx,rfl⟩:=hlt k hk;exact hO.lasts ha x hx,k2,k4⟩) (fun _=>P++ [atT 0 t]) (fun _=>dp) (fun _=>last) (fun _=>any) ⟨rfl,rfl,rfl,rfl⟩ (fun h=>by cases h)).mono ?_
 rintro e w' ⟨hv,P',dp',last',any',F',G',h,hi,hk⟩;refine⟨hv,F',G',?_,hk⟩;rcases h with ⟨_,rfl,rfl,rfl,rfl⟩ | ⟨h,_⟩
 ·have e1:Z9c (Z0f 0 t) last=Y1q (Z0c 0 t).keys last (Z0c 0 t).keys.length:=(V2l k2 last).symm;have e2:(!(Z0f 0 t).isEmpty)=decide (0<(Z0c 0 t).keys.length):=(X8x k2).symm;rw[e1,e2];exact hi
 ·cases h
def Y8k{d:Nat}(t:TT (d+1))(P:List Nat)(j:Nat):List Nat:=P++InT.at_ t::((InT.kids t).take j).flatMap (Z0a d)
def Z3g{d:Nat}(t:TT (d+1))(j:Nat):List KV:=((InT.kids t).take j).flatMap (Z0f d)
theorem Y9q{α β:Type}{f:α->List β}{l:List α}{j:Nat}{c:α}(h:l[j]? =some c):(l.take (j+1)).flatMap f=(l.take j).flatMap f++f c:=by rw[List.take_add_one,h,aH];simp
theorem V5g{S:StoreD}{d:Nat}{t:TT (d+1)}{deep j:Nat}{P:List Nat}{dp:Int}{last low high:ByteArray}{any bound:Bool}{c:TT d}(hO:VisOk S (d+1) t deep P dp last any low high bound)(hc:(InT.kids t)[j]? =some c):
  VisOk S d c (deep+1) (Y8k t P j) (if j=0 then dp else((deep+(d+1):Nat):Int)) (Z9c (Z3g t j) last) (any || !(Z3g t j).isEmpty) (lowJ (InT.keys t) low j) (Y2m (InT.keys t) high j) (Z6r (InT.keys t) bound j):=by
 have hcm:c∈InT.kids t:=List.mem_of_getElem? hc;obtain⟨hjl,hce⟩:=aC.1 hc;obtain⟨k1,k2,k3,k4,k5,k6⟩:=hO.ok;obtain⟨n1,n2⟩:=Z1c hO.nd;have sp:=Z2f.1 k5;have hnd:=hO.nd;have hpj:∀b∈Z0a d c,b∈Z0a (d+1) t:=fun b hb=>by show b∈InT.at_ t::(InT.kids t).flatMap (Z0a d);exact List.mem_cons_of_mem _ (List.mem_flatMap.2 ⟨c,hcm,hb⟩)
 have hall:∀x∈allT d c,x∈allT (d+1) t:=fun x hx=>by show x∈InT.keys t++(InT.kids t).flatMap (allT d);exact List.mem_append_right _ (List.mem_flatMap.2 ⟨c,hcm,hx⟩)
 have hsplit:(InT.kids t).flatMap (Z0a d)=((InT.kids t).take j).flatMap (Z0a d)++(Z0a d c++((InT.kids t).drop (j+1)).flatMap (Z0a d)):=by
  have e:InT.kids t=(InT.kids t).take j++c::(InT.kids t).drop (j+1):=by rw[<-hce,List.getElem_cons_drop,List.take_append_drop]
  conv=>lhs;rw[e]
  rw[aH,aI]
 have hsplitL:(InT.kids t).flatMap (Z0f d)=Z3g t j++(Z0f d c++((InT.kids t).drop (j+1)).flatMap (Z0f d)):=by
  have e:InT.kids t=(InT.kids t).take j++c::(InT.kids t).drop (j+1):=by rw[<-hce,List.getElem_cons_drop,List.take_append_drop]
  conv=>lhs;rw[e]
  rw[aH,aI];rfl
 have hrise:Z6w (Z0f (d+1) t):=Z4u (d+1) t hO.ok;refine⟨hO.on.2 c hcm,k4 c hcm,(n1 c hcm).2,fun b hb hbP=> ?_,by omega,by have:=hO.dep;omega,?_,fun x hx=> ?_,fun hb x hx=> ?_,fun ha x hx=> ?_⟩
 ·rcases List.mem_append.1 hbP with q | q
  ·exact hO.new b (hpj b hb) q
  ·have hn:(InT.at_ t::(InT.kids t).flatMap (Z0a d)).Nodup:=hnd;rw[hsplit,List.nodup_cons]at hn;rcases List.mem_cons.1 q with q | q
   ·exact hn.1 (List.mem_append_right _ (List.mem_append_left _ (q▸hb)))
   ·have hn2:=List.nodup_append.1 hn.2;exact hn2.2.2 b q b (List.mem_append_left _ hb) rfl
 ·by_cases h0:j=0
  ·rw[if_pos h0];exact hO.dpt.imp id (fun e=>by rw[e];congr 1;omega)
  ·rw[if_neg h0];right;congr 1;omega
 ·unfold lowJ;by_cases h0:j=0
  ·rw[if_pos h0];exact hO.lows x (hall x hx)
  ·rw[if_neg h0];have hs:(InT.keys t)[j-1]? =some ((InT.keys t)[j-1]'(by omega)):=aB (by omega);rw[hs,Option.getD_some];exact(sp j c hc x hx (j-1) _ hs).1 (by omega)
 ·unfold Y2m;by_cases hjk:j<(InT.keys t).length
  ·have hs:(InT.keys t)[j]? =some ((InT.keys t)[j]):=aB hjk;rw[hs,Option.getD_some];exact(sp j c hc x hx j _ hs).2 (aF _)
  ·rw[List.getElem?_eq_none (by omega),Option.getD_none];have hb':bound=true:=by unfold Z6r at hb;simpa [hjk]using hb
   exact hO.highs hb' x (hall x hx)
 ·have hr2:Z6w (Z3g t j++(Z0f d c++((InT.kids t).drop (j+1)).flatMap (Z0f d))):=by rw[<-hsplitL];exact hrise
  have hr3:=(List.pairwise_append.1 hr2).2.2;cases hk:(Z3g t j).getLast? with
  | none=>
    have he:Z3g t j= []:=List.getLast?_eq_none_iff.1 hk;rw[he]at ha ⊢;have ha':any=true:=by simpa using ha
    refine hO.lasts ha' x ?_;show x∈(InT.kids t).flatMap (Z0f d);exact List.mem_flatMap.2 ⟨c,hcm,hx⟩
  | some y=>
    unfold Z9c;rw[hk];exact hr3 y (List.mem_of_getLast? hk) x (List.mem_append_left _ hx)
theorem X6h{tr p i vb mb:Nat}{S:StoreD}(hm:S.head.pages<=1024):∀(d:Nat) (t:TT d) (deep:Nat) (P:List Nat) (dp:Int) (last low high:ByteArray) (any bound:Bool) (F G:Nat->Prop) (w:World),VisI tr p i vb mb S P dp last any F G w->VisOk S d t deep P dp last any low high bound->
  cQ 189 #[tp vb,.int .i64 (atT d t),.int .i64 deep,.string low,.string high,.bool bound] w (VisP tr p i vb mb S (P++Z0a d t) (deep+d) (Z9c (Z0f d t) last) (any || !(Z0f d t).isEmpty) F G w):=by
 intro d
 induction d with
 | zero=>intro t deep P dp last low high any bound F G w hI hO;exact X6i hm t deep P dp last low high any bound F G w hI hO
 | succ d ih=>
   intro t deep P dp last low high any bound F G w hI hO;have hap:=Z0r (d+1) t;have hgv:=Z0l (d+1) t hO.on _ hap;obtain⟨k1,k2,k3,k4,k5,k6⟩:=hO.ok;have hsub:∀k∈InT.keys t,k∈allT (d+1) t:=fun k hk=>by show k∈InT.keys t++(InT.kids t).flatMap (allT d);exact List.mem_append_left _ hk
   have hkl:(Z0c (d+1) t).kids.length=(InT.kids t).length:=List.length_map _;have hne:(InT.kids t).length≠0:=by omega
   refine(Y5v (Z0c (d+1) t) (atT (d+1) t) deep P dp last low high any bound w hI hO.on.1 (hO.new _ hap) (by have:=hgv.2.1;omega) (by have:=hO.dep;omega) hO.pos k1 (fun k hk=>⟨hO.lows k (hsub k hk),fun hb=>hO.highs hb k (hsub k hk),(k3 k hk).1,(k3 k hk).2⟩) (fun h=>by cases h)
    (Y8k t P) (fun j=>if j=0 then dp else((deep+(d+1):Nat):Int)) (fun j=>Z9c (Z3g t j) last) (fun j=>any || !(Z3g t j).isEmpty) ⟨by unfold Y8k;simp[atT],rfl,by simp[Z3g,Z9c],by simp[Z3g]⟩ (fun _=>⟨by rw[hkl];exact k2,fun j hj=> ?_⟩)).mono ?_
   ·rw[hkl]at hj;obtain⟨c,hc⟩:∃c,(InT.kids t)[j]? =some c:=⟨_,aB hj⟩;refine⟨atT d c,by show((InT.kids t).map _)[j]? =_;rw[List.getElem?_map,hc];rfl,fun W F2 G2 hI2=> ?_⟩;have h1:=ih c (deep+1) (Y8k t P j) (if j=0 then dp else((deep+(d+1):Nat):Int)) (Z9c (Z3g t j) last) (lowJ (InT.keys t) low j) (Y2m (InT.keys t) high j) (any || !(Z3g t j).isEmpty) (Z6r (InT.keys t) bound j) F2 G2 W hI2 (V5g hO hc);rw[show ((deep+1:Nat):Int)=(deep:Int)+1 by omega]at h1;refine h1.mono ?_;rintro e w' ⟨hv,F',G',hi,hk⟩;refine⟨hv,F',G',?_,hk⟩;have e1:Y8k t P (j+1)=Y8k t P j++Z0a d c:=by unfold Y8k;rw[Y9q hc];simp
    have e2:Z3g t (j+1)=Z3g t j++Z0f d c:=Y9q hc;rw[e1,e2,V2m,if_neg (by omega)];rw[show deep+(d+1)=deep+1+d by omega];rw[show (any || !(Z3g t j++Z0f d c).isEmpty)=(any || !(Z3g t j).isEmpty || !(Z0f d c).isEmpty)by
     cases Z3g t j<;>cases any<;>simp]
    exact hi
   ·rintro e w' ⟨hv,P',dp',last',any',F',G',h,hi,hk⟩;refine⟨hv,F',G',?_,hk⟩;rcases h with ⟨h,_⟩ | ⟨_,rfl,rfl,rfl,rfl⟩
    ·cases h
    ·rw[hkl,if_neg hne]at hi;have e1:Y8k t P (InT.kids t).length=P++Z0a (d+1) t:=by unfold Y8k;rw[List.take_length];rfl
     have e2:Z3g t (InT.kids t).length=Z0f (d+1) t:=by unfold Z3g;rw[List.take_length];rfl
     rw[e1,e2]at hi;exact hi
def depV:TrD->Nat
 | .no=>0
 | .yes d _=>d+1
def U2v(tr p:Nat)(S:StoreD)(T:TrD)(F:Nat->Prop)(w:World)(e:Ending)(w':World):Prop:=
 ∃(vb:Nat) (A:Option Addr) (n c:Nat) (mb:Option Nat) (last:ByteArray) (any:Bool) (F':Nat->Prop),e= .returned (tp vb)/\Y5i w' vb tr (.slice A n c) (.map mb) (depV T) last any/\OwnL w' 0 3 1 encN (.slice A n c) (Z7x T.pages)/\(∀k,(Value.slice A n c).ownBlock=some k->¬F' k)/\PagerAt w' p F' S/\Keeps F F' w w'
theorem V7f:(fun _=>none:Int->Option Bool)=metF []:=by funext x;rfl
theorem X4y{tr p i:Nat}{F:Nat->Prop}{S:StoreD}(T:TrD)(w:World)(ht:Z0b w tr p i)(hnt:¬F tr)(h:PagerAt w p F S)(hi:i<16)(hf:Fm S)(hT:TrS S i T)(hd:T.fine):
  cQ 145 #[tp tr] w (U2v tr p S T F w):=by
 have htl:=ht.lt;obtain⟨F0,hF0⟩:∃F0:Nat->Prop,F0=fun i=>F i/\i<w.heap.size:=⟨_,rfl⟩;have hV:∀W',W'=(w.alloc (.map #[] 0)).alloc (.cells #[tp tr,.slice none 0 0,.map (some w.heap.size),.int .i64 0,.string ⟨#[]⟩,.bool false,.bool false] 237)->VisI tr p i (w.heap.size+1) w.heap.size S [] 0 ⟨#[]⟩ false F0 (fun i=>i=w.heap.size\/i=w.heap.size+1) W'/\Ext w W':=by rintro W' rfl;have hx:Ext w ((w.alloc (.map #[] 0)).alloc (.cells #[tp tr,.slice none 0 0,.map (some w.heap.size),.int .i64 0,.string ⟨#[]⟩,.bool false,.bool false] 237)):=(Ext.alloc _ _).trans (Ext.alloc _ _);refine⟨⟨ht.ext hx htl,fun q=>by rw[hF0]at q;exact hnt q.1,fun q=>by rcases q with q | q<;>omega,by rw[hF0];exact PagerAt.ext (F:=fun i=>F i/\i<w.heap.size) h.shrink hx,⟨⟨none,0,0,Row1.made' (by simp) _ _,OwnL.nil _ _ _ _ _,fun k q=>(by cases q)⟩,?_,.inr rfl,.inl rfl,fun b hb=>(by cases hb),List.nodup_nil⟩,⟨fun i q=>by rw[hF0]at q;have:=q.2;simp;omega,fun i q=>⟨(by rcases q with rfl | rfl<;>simp<;>omega),fun r=>(by rw[hF0]at r;have:=r.2;rcases q with rfl | rfl<;>omega)⟩⟩⟩,hx⟩;rw[<-V7f];exact((MapI.made w 3 encT).mono (Nat.zero_le _)).ext (Ext.alloc _ _)
 have HV:=hD hV;have HT:=hD hT;have HWID:Hid (∀(F':Nat->Prop) (W W':World),Ext w W->Keeps F0 F' W W'->Keeps F F' w W'):=fun F' W W' hx hk=>((Keeps.of hx).trans hk).widen (fun i q=>by rw[hF0]at q;exact q.1);have hm:=hf.most;have cR:Hid (∀(W:World) (G:Nat->Prop),VisI tr p i (w.heap.size+1) w.heap.size S [] 0 ⟨#[]⟩ false F0 G W->cQ 78 #[tp tr] W fun e w'=>e= .returned (.tuple #[.int .i64 (Z1w S i),.int .i64 0])/\∃F',VisI tr p i (w.heap.size+1) w.heap.size S [] 0 ⟨#[]⟩ false F' G w'/\Keeps F0 F' W w'):=fun W G hI=>by refine(Z4d W hI.tree hI.nf hI.pag hi).mono ?_;rintro e w' ⟨rfl,F',hp,hk⟩;exact⟨rfl,_,hI.call hk.shrink hp.shrink (fun i q=>q.2),hk.shrink⟩
 obtain⟨W2,hW2⟩:∃W2,(w.alloc (.map #[] 0)).alloc (.cells #[tp tr,.slice none 0 0,.map (some w.heap.size),.int .i64 0,.string ⟨#[]⟩,.bool false,.bool false] 237)=W2:=⟨_,rfl⟩;obtain⟨hI2,hx2⟩:=HV.out W2 hW2.symm;have HI2:=hD hI2;have HX2:=hD hx2;have HI:=hD hi;have HHD:=hD hd;clear ht hnt h hF0 hV hf hI2 hx2 hT hi hd;have hmm:= @run_makeMap Tryz.prog;go_enter Tryz.func145,Tryz.ntmps145;go_upto_region 2 with fail;clear hW2;cases T with
 | no=>
   have hr0:Z1w S i=0:=HT.out;have c3:=cR.out W2 _ HI2.out;rw[hr0]at c3;go_wp2_with (go_at_call 78;(with_reducible refine c3.mono ?_);clear c3;rintro e w3 ⟨rfl,F3,hi3,hk3⟩;have HI3:=hD hi3;have HK3:=hD hk3;clear hi3 hk3);go_ret;obtain⟨A,n,c,r1,r2,r3⟩:=HI3.out.vis.ex;exact⟨_,A,n,c,_,_,_,F3,rfl,r1,r2,fun k q=>(HI3.out.dis.2 k (r3 k q)).2,HI3.out.pag,HWID.out _ _ _ HX2.out HK3.out⟩
 | yes d t=>
   obtain⟨y1,y2,y3,y4⟩:=HT.out;have c3:=cR.out W2 _ HI2.out;rw[y1]at c3;have hpos:=(Z0l d t y2 _ (Z0r d t)).1;have hd31:d<31:=HHD.out;have HOK:Hid (VisOk S d t 1 [] 0 ⟨#[]⟩ false ⟨#[]⟩ ⟨#[]⟩ false):=⟨y2,y3,y4,fun b _ q=>(by cases q),by omega,by omega,.inl rfl,fun x _=>V2a x,fun q=>(by cases q),fun q=>(by cases q)⟩;have HM:=hD hm;have cV:Hid (∀(F G:Nat->Prop) (W:World),VisI tr p i (w.heap.size+1) w.heap.size S [] 0 ⟨#[]⟩ false F G W->cQ 189 #[.pointer (some ⟨w.heap.size+1,0,none⟩),.int .i64 (atT d t),.int .i64 1,.string ⟨#[]⟩,.string ⟨#[]⟩,.bool false] W (VisP tr p i (w.heap.size+1) w.heap.size S ([]++Z0a d t) (1+d) (Z9c (Z0f d t) ⟨#[]⟩) (false || !(Z0f d t).isEmpty) F G W)):=fun F G W hI=>X6h HM.out d t 1 [] 0 ⟨#[]⟩ ⟨#[]⟩ ⟨#[]⟩ false false F G W hI HOK.out;clear y1 y2 y3 y4 hm;obtain⟨a,ha⟩:∃a,atT d t=a:=⟨_,rfl⟩;rw[ha]at c3 cV hpos;have T1:((a:Int)==0)=false:=by simp;omega
   have T2:decide ((a:Int)=0)=false:=aM;have T3:0<a:=by omega
   clear ha;go_wp2_with (first
    | (go_at_call 78;(with_reducible refine c3.mono ?_);clear c3;rintro e w3 ⟨rfl,F3,hi3,hk3⟩;have cV3:=cV.out _ _ _ hi3;have HK3:=hD hk3;clear hi3 hk3)
    | (go_at_call 189;(with_reducible refine cV3.mono ?_);clear cV3;rintro e w4 ⟨⟨v4,rfl⟩,F4,G4,hi4,hk4⟩;have HI4:=hD hi4;have HK4:=hD hk4;clear hi4 hk4))
   go_ret;obtain⟨A,n,c,r1,r2,r3⟩:=HI4.out.vis.ex;have hz:=HX2.out.size;refine⟨_,A,n,c,_,_,_,F4,rfl,by rw[show ((depV (.yes d t):Nat):Int)=((1+d:Nat):Int)by show((d+1:Nat):Int)=_;omega];exact r1,r2,fun k q=>(HI4.out.dis.2 k (r3 k q)).2,HI4.out.pag,?_⟩;have k1:=HWID.out _ _ _ HX2.out HK3.out;refine⟨k1.only.trans HK4.out.only (fun i q=> ?_),fun i q=> ?_⟩
   ·rcases q with q | q | q
    ·exact k1.new i q
    ·exact .inr (by omega)
    ·exact .inr (by omega)
   ·rcases HK4.out.new i (.inl q)with (q | q | q) | q
    ·exact k1.new i q
    ·exact .inr (by omega)
    ·exact .inr (by omega)
    ·exact .inr (by have:=k1.only.size;omega)
theorem X1h(P:List Nat):(Z7x P).length=P.length:=List.length_map _
theorem V9c{P:List Nat}{j b:Nat}(h:P[j]? =some b):(Z7x P)[j]?.getD 0=(b:Int):=by unfold Z7x;rw[List.getElem?_map,h];rfl
def U2t(S:StoreD)(i:Nat):TrD->StoreD
 | .no=>S
 | .yes d t=>Z6q (Z0q S i 0) (Z0a d t)
theorem X8e(S:StoreD){P:List Nat}{j b:Nat}(h:P[j]? =some b):Z6q S (P.take (j+1))=useP (Z6q S (P.take j)) b false:=by unfold Z6q;rw[List.take_add_one,h];simp
theorem X2y{S:StoreD}{P:List Nat}{j b:Nat}(hf:FullV S)(hg:∀b∈P,Z0s S b)(hm:S.head.pages<=1024)(hn:P.Nodup)(h:P[j]? =some b):Z0s (Z6q S (P.take j)) b:=by have hb:=List.mem_of_getElem? h;have h1:=Y4t (P.take j) hf (fun b q=>by have:=(hg b (List.mem_of_mem_take q)).2.1;omega);have h2:=hg b hb;refine⟨h2.1,by rw[h1.head];exact h2.2.1,(h1.used _).2 ⟨.inl h2.2.2,fun q=> ?_⟩⟩;obtain⟨hj,e⟩:=aC.1 h;obtain⟨k,hk,e2⟩:=List.mem_iff_getElem.1 q;rw[aD]at hk;rw[List.getElem_take]at e2;exact(List.pairwise_iff_getElem.1 hn) k j (by omega) hj (by omega) (by rw[e2,e])
theorem V1e{tr p i:Nat}{F:Nat->Prop}{S:StoreD}(T:TrD)(w:World)(ht:Z0b w tr p i)(hnt:¬F tr)(h:PagerAt w p F S)(hi:i<16)(hf:Fm S)(hT:TrS S i T)(hd:T.fine):
  cQ 99 #[tp tr] w fun e w'=>∃(A:Option Addr) (c:Nat) (F':Nat->Prop),e= .returned (.slice A T.pages.length c)/\OwnL w' 0 3 1 encN (.slice A T.pages.length c) (Z7x T.pages)/\(∀k,(Value.slice A T.pages.length c).ownBlock=some k->¬F' k)/\PagerAt w' p F' S/\Keeps F F' w w':=by
 have cL:=X4y T w ht hnt h hi hf hT hd;clear ht hnt h hf hT hd;go_enter Tryz.func99,Tryz.ntmps99;go_wp2_with (go_at_call 145;(with_reducible refine cL.mono ?_);clear cL;rintro e w1 ⟨vb,A,n,c,mb,last,any,F1,rfl,hr,ho,hF,hp,hk⟩;have v1:w1.cell? ⟨vb,1,none⟩=some (.slice A n c):=hr.cell 1;have HO:=hD ho;have HF:=hD hF;have HP:=hD hp;have HK:=hD hk;clear hr ho hF hp hk);go_ret;obtain⟨A',c',hv⟩:=OwnL.form HO.out;injection hv with e1 e2 e3;rw[X1h]at e2;subst e2;exact⟨A,c,F1,rfl,HO.out,HF.out,HP.out,HK.out⟩
theorem V8q{tr p i:Nat}{F:Nat->Prop}{S:StoreD}(T:TrD)(w:World)(ht:Z0b w tr p i)(hnt:¬F tr)(h:PagerAt w p F S)(hi:i<16)(hf:Fm S)(hT:TrS S i T)(hd:T.fine):
  cQ 81 #[tp tr] w fun e w'=>e= .returned (.int .i64 0)/\∃F',PagerAt w' p F' (U2t S i T)/\Keeps F F' w w':=by
 have cR:=Z4d w ht hnt h hi;have cP:Hid (∀F1 W,PagerAt W p F1 S->Keeps F F1 w W->cQ 99 #[tp tr] W fun e w'=>∃(A:Option Addr) (c:Nat) (F':Nat->Prop),e= .returned (.slice A T.pages.length c)/\OwnL w' 0 3 1 encN (.slice A T.pages.length c) (Z7x T.pages)/\(∀k,(Value.slice A T.pages.length c).ownBlock=some k->¬F' k)/\PagerAt w' p F' S/\Keeps F1 F' W w'):=fun F1 W q k=>V1e T W (k.only.row ht hnt) (k.out ht.lt hnt) q hi hf hT hd;have HRW:Hid (∀F1 W,Keeps F F1 w W->Z0b W tr p i):=fun F1 W k=>k.only.row ht hnt;have HI:=hD hi;cases T with
 | no=>
   have hr0:Z1w S i=0:=hT;rw[hr0]at cR;clear ht hnt h hf hT hd cP hr0 hi;go_enter Tryz.func81,Tryz.ntmps81;go_wp2_with (go_at_call 78;(with_reducible refine cR.mono ?_);clear cR;rintro e w1 ⟨rfl,F1,hp1,hk1⟩;have HP1:=hD hp1;have HK1:=hD hk1;clear hp1 hk1);go_ret;exact⟨rfl,F1,HP1.out,HK1.out⟩
 | yes d t=>
   obtain⟨y1,y2,y3,y4⟩:=hT;rw[y1]at cR;have hpos:=(Z0l d t y2 _ (Z0r d t)).1;have HG:Hid (∀j b,(Z0a d t)[j]? =some b->Z0s (Z6q (Z0q S i 0) ((Z0a d t).take j)) b):=fun j b q=>by obtain⟨b1,hr1⟩:=Stp.setRoot (i:=i) (n:=0) (Stp.refl hf.full |>.mono (P':=fun _=>False) (fun _ q=>q)) hi (by omega);refine X2y b1.full (fun b r=> ?_) (by rw[b1.head];exact hf.most) y4 q;have hg:=Z0l d t y2 b r;exact⟨hg.1,by rw[b1.head];exact hg.2.1,(b1.used _).2 ⟨.inl hg.2.2,by simp⟩⟩
   rw[show TrD.pages (.yes d t)=Z0a d t from rfl]at cP;show Calls _ _ _ _ fun e w'=>e= .returned (.int .i64 0)/\∃F',PagerAt w' p F' (Z6q (Z0q S i 0) (Z0a d t))/\Keeps F F' w w';have hlen:(Z0a d t).length<=1024:=Y8f y4 (fun b hb=>by have:=(Z0l d t y2 b hb).2.1;have:=hf.most;omega);clear ht hnt h hf hd y1 y2 y3 y4 hi;generalize Z0a d t=P at *;generalize atT d t=a at *;have T1:((a:Int)==0)=false:=by simp;omega
   have T2:decide ((a:Int)=0)=false:=aM;have T3:0<a:=by omega
   go_enter Tryz.func81,Tryz.ntmps81;go_upto_region 5 with (first
    | (go_at_call 78;(with_reducible refine cR.mono ?_);clear cR;rintro e w1 ⟨rfl,F1,hp1,hk1⟩;have cP1:=cP.out _ _ hp1 hk1;have HK1:=hD hk1;clear hp1 hk1)
    | (go_at_call 99;(with_reducible refine cP1.mono ?_);clear cP1;rintro e w2 ⟨A,c,F2,rfl,ho2,hF2,hp2,hk2⟩;have HO2:=hD ho2;have HF2:=hD hF2;have HP2:=hD hp2;have HK2:=hD (Keeps.trans HK1.out hk2);clear ho2 hF2 hp2 hk2))
   have HR2:Hid (Z0b w2 tr p i):=HRW.out _ _ HK2.out;have cSR:Hid (∀W,Ext w2 W->cQ 83 #[tp p,.int .i64 i,.int .i64 0] W fun e w'=>e= .returned (.int .i64 0)/\∃F',PagerAt w' p F' (Z0q S i 0)/\Keeps F2 F' W w'):=fun W hW=>Z6g i 0 W (HP2.out.ext hW) HI.out (.inl rfl);have HCD:Hid (∀(F':Nat->Prop) (W W' W'':World),Ext w2 W->Keeps F2 F' W W'->Ext W' W''->W''.cell? ⟨tr,0,none⟩=some (tp p)/\W''.cell? ⟨tr,1,none⟩=some (.int .i64 (i:Int))):=fun F' W W' W'' hx hk hx2=>by have r1:=HRW.out _ _ (((HK2.out.ext hx).trans hk).ext hx2);exact⟨r1.cell 0,r1.cell 1⟩
   refine wp_region_held_drew (S:=fun W=>W.cell? ⟨tr,0,none⟩=some (tp p)/\W.cell? ⟨tr,1,none⟩=some (.int .i64 (i:Int))) (by kernel_rfl) (HCD.out F2 w2 w2 _ (Ext.refl _) Keeps.refl (by exact Xt)) (fun hHeld=> ?_);refine' tk 0 ?_;refine' tk 1 ?_;refine' tk 2 ?_;refine' tk 3 ?_;refine' tk 4 ?_;refine' tk 5 ?_;refine' tk 6 ?_;refine' tk 7 ?_;refine stp 8 (fun K hK=> ?_);go_simp
   (with_reducible refine(cSR.out _ ?_).mono ?_)
   ·exact Xt
   rintro e w3 ⟨rfl,F3,hp3,hk3⟩;have HP3:=hD hp3;have HK3:=hD hk3;clear hp3 hk3
   (try dsimp only)
   (try go_simp)
   refine hK.out _ _ (HCD.out _ _ _ _ (Below.drew (Ext.refl _)) HK3.out (Ext.refl _)) (fun hHeld=> ?_);clear hK K;refine pt ?_;refine' tk 9 ?_;refine wpAnyH_done (by kernel_rfl) ?_ _;have hk3:Keeps F2 F3 w2 w3:=(Keeps.of (Below.drew (Ext.refl _))).trans HK3.out;have HO3:Hid (OwnL w3 0 3 1 encN (.slice A P.length c) (Z7x P)):=HO2.out.only hk3.only HF2.out;have HF3:Hid (∀k,(Value.slice A P.length c).ownBlock=some k->¬F3 k):=fun k q=>hk3.out (HO2.out.lt k q).2 (HF2.out k q);have HK23:=hD (HK2.out.trans hk3);clear hk3 HO2 HF2 HK3 HCD cSR HR2 HK1 cP;go_wp2_with fail
   go_loopw [38] (fun x wr=>∃(j:Nat) (Fr:Nat->Prop),j<=P.length/\x= .int .i64 j/\Hid (PagerAt wr p Fr (Z6q (Z0q S i 0) (P.take j))/\Keeps F3 Fr w3 wr)) (fun x _=>P.length-(intOf x).toNat)
   case atStart=>exact⟨0,F3,Nat.zero_le _,rfl,hD ⟨HP3.out,Keeps.refl⟩⟩
   case round=>
    obtain⟨j,Fr,hj,rfl,HR⟩:=hrel;by_cases hjn:j<P.length
    ·have q2:decide ((j:Int)<(P.length:Int))=true:=aN;have q2':(j:Int)<(P.length:Int):=by omega
     obtain⟨b,hb⟩:∃b,P[j]? =some b:=⟨_,aB hjn⟩;have hor:=HO3.out.only HR.out.2.only HF3.out;obtain⟨g,c',hv,hgl,hgc⟩:=Z6p hor j (by rw[X1h];exact hjn);rw[V9c hb]at hgc;injection hv with e1 e2 e3;subst e1 e3;have cF:=Y3y b wr HR.out.1 (HG.out j b hb);rw[<-X8e _ hb]at cF;have t0:wr.cell? ⟨tr,0,none⟩=some (tp p):=(HRW.out _ _ (HK23.out.trans HR.out.2)).cell 0;clear e2 hb hor;go_wp2_with (go_at_call 84;(with_reducible refine cF.mono ?_);clear cF;rintro e w5 ⟨rfl,F5,hp5,hk5⟩;have HP5:=hD hp5;have HK5:=hD hk5;clear hp5 hk5)
     go_roundw
     case rel=>exact⟨j+1,F5,by omega,rfl,hD ⟨HP5.out,HR.out.2.trans HK5.out⟩⟩
     case measure=>simp[intOf];omega
    ·have q2:decide ((j:Int)<(P.length:Int))=false:=aM;have q2':¬(j:Int)<(P.length:Int):=by omega
     have hjp:j=P.length:=by omega
     have HR':Hid (PagerAt wr p Fr (Z6q (Z0q S i 0) P)/\Keeps F3 Fr w3 wr):=by have:=HR.out;rw[hjp,List.take_length]at this;exact this
     clear hjp;go_wp2_with fail;go_ret;exact⟨rfl,Fr,HR'.out.1,HK23.out.trans HR'.out.2⟩
end Go.Proofs.YtohaldfnmgcofaaGreat
