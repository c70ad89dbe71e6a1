/- A node that fits is laid down as it is (cut); a leaf's tree: room, put. Conditions: pages that bear nodes. -/
import Derived.Test.YtohaldfnmgcofaaGreatT18
set_option maxRecDepth 100000
set_option maxHeartbeats 4000000
set_option linter.unusedSimpArgs false
set_option linter.unusedVariables false
namespace Go.Proofs.YtohaldfnmgcofaaGreat
open Go.RowKit
theorem V8x{t p i:Nat}{F G:Nat->Prop}{S:StoreD}(a:Nat)(n:NodeD){kv vv cv:Value}(w:World)(ht:Z0b w t p i)(hnt:¬F t)(h:PagerAt w p F S)(hg:Z0s S a)(hn:NodeOk n)(hf:Fair n)(hs:Z0n n<=256)(hv:NodeAs w G n kv vv cv):
  cQ 153 #[tp t,.int .i64 a,.agg #[.bool n.leaf,kv,vv,cv]] w fun e w'=>e= .returned (.tuple #[.string ⟨#[]⟩,.int .i64 0,.int .i64 0])/\∃F',PagerAt w' p F' (layP S a n)/\Keeps F F' w w':=by
 obtain⟨kA,kc,rfl⟩:=OwnL.form hv.keys;obtain⟨vA,vc,rfl⟩:=OwnL.form hv.vals;obtain⟨cA,cc,rfl⟩:=OwnL.form hv.kids;have cZ:Hid (∀W,Ext w W->cQ 186 #[.agg #[.bool n.leaf,.slice kA n.keys.length kc,.slice vA n.vals.length vc,.slice cA n.kids.length cc]] W fun e w'=>e= .returned (.int .i64 (Z0n n))/\Ext W w'):=fun W hW=>Y7t W (hv.ext hW) hf;have cL:Hid (∀W,Ext w W->cQ 92 #[tp t,.int .i64 a,.agg #[.bool n.leaf,.slice kA n.keys.length kc,.slice vA n.vals.length vc,.slice cA n.kids.length cc]] W fun e w'=>e= .returned (.int .i64 0)/\∃F',PagerAt w' p F' (layP S a n)/\Keeps F F' W w'):=fun W hW=>Y1p a n W (ht.ext hW ht.lt) hnt (h.ext hW) hg hn hs (hv.ext hW);have T1:decide ((Z0n n:Int)<=256)=true:=aN;generalize Z0n n=sz at *;obtain⟨lf,hlf⟩:∃lf,n.leaf=lf:=⟨_,rfl⟩;obtain⟨kn,hkn⟩:∃kn,n.keys.length=kn:=⟨_,rfl⟩;obtain⟨vn,hvn⟩:∃vn,n.vals.length=vn:=⟨_,rfl⟩;obtain⟨cn,hcn⟩:∃cn,n.kids.length=cn:=⟨_,rfl⟩;rw[hlf,hkn,hvn,hcn]at cZ cL ⊢;obtain⟨w0,hw0⟩:∃w0,w.alloc (.cells #[.bool lf,.slice kA kn kc,.slice vA vn vc,.slice cA cn cc] 166)=w0:=⟨_,rfl⟩;have hx0:Ext w w0:=hw0▸Ext.alloc _ _;have hr0:Row1 w0 w.heap.size 166 [.bool lf,.slice kA kn kc,.slice vA vn vc,.slice cA cn cc]:=hw0▸Row1.made w _ _;have c0:w0.cell? ⟨w.heap.size,0,none⟩=some (.bool lf):=hr0.cell 0;have c1:w0.cell? ⟨w.heap.size,1,none⟩=some (.slice kA kn kc):=hr0.cell 1;have c2:w0.cell? ⟨w.heap.size,2,none⟩=some (.slice vA vn vc):=hr0.cell 2;have c3:w0.cell? ⟨w.heap.size,3,none⟩=some (.slice cA cn cc):=hr0.cell 3;have HR:=hD hr0;have HX:=hD hx0;clear ht h hg hn hs hv hlf hkn hvn hcn hr0 hx0 hf;go_enter Tryz.func153,Tryz.ntmps153;go_wp2_with (first
  | (go_at_call 186;(with_reducible refine(cZ.out _ HX.out).mono ?_);clear cZ;rintro e w1 ⟨rfl,hx1⟩;have hr1:=HR.out.ext hx1 HR.out.lt;have d0:w1.cell? ⟨w.heap.size,0,none⟩=some (.bool lf):=hr1.cell 0;have d1:w1.cell? ⟨w.heap.size,1,none⟩=some (.slice kA kn kc):=hr1.cell 1;have d2:w1.cell? ⟨w.heap.size,2,none⟩=some (.slice vA vn vc):=hr1.cell 2;have d3:w1.cell? ⟨w.heap.size,3,none⟩=some (.slice cA cn cc):=hr1.cell 3;have HX1:=hD (Ext.trans HX.out hx1);clear hr1 hx1)
  | (go_at_call 92;(with_reducible refine(cL.out _ HX1.out).mono ?_);clear cL;rintro e w2 ⟨rfl,F2,hp2,hk2⟩;have HP2:=hD hp2;have HK2:=hD hk2;clear hp2 hk2))
 go_ret3
 exact⟨rfl,F2,HP2.out,Keeps.trans (Keeps.of HX1.out) HK2.out⟩
theorem Keeps.side{F F' G:Nat->Prop}{w w' w'':World}(h:Keeps F F' w w')(k:Only G w' w'')(hG:∀i,G i->w.heap.size<=i):Keeps F F' w w'':=⟨h.only.trans k (fun i q=> .inr (hG i q)),h.new⟩
theorem NodeOk.fair{n:NodeD}(h:NodeOk n):Fair n:=by
 refine⟨fun k hk=>by have:=h.keys k hk;omega,fun k hk=>by have:=h.vals k hk;omega,by have:=h.many;omega,?_,?_⟩
 ·cases hl:n.leaf with
  | true=>have:=(h.leafs hl).1;have:=h.many;omega
  | false=>rw[(h.inner hl).1];simp
 ·cases hl:n.leaf with
  | true=>rw[(h.leafs hl).2];simp
  | false=>have:=(h.inner hl).2;have:=h.many;omega
def X6e(t p i a:Nat)(S:StoreD)(n:NodeD)(R:ByteArray->Nat->StoreD->Prop):Prop:=
 ∀(W:World) (F G:Nat->Prop) (kv vv cv:Value),Z0b W t p i->¬F t->PagerAt W p F S->NodeAs W G n kv vv cv->(∀i,F i->¬G i)->
  cQ 153 #[tp t,.int .i64 a,.agg #[.bool n.leaf,kv,vv,cv]] W fun e w'=>∃(mid:ByteArray) (right:Nat) (S':StoreD),e= .returned (.tuple #[.string mid,.int .i64 right,.int .i64 0])/\R mid right S'/\∃F',PagerAt w' p F' S'/\Keeps F F' W w'
def putN(n:NodeD)(k v:ByteArray):NodeD:=if hasB n.keys k=true then { n with vals:=n.vals.set (posB n.keys k) v}else { n with keys:=insL n.keys (posB n.keys k) k,vals:=insL n.vals (posB n.keys k) v}
theorem OwnL.setS{w:World}{base:Nat}{v:Value}{l:List ByteArray}(h:OwnL w base 9 1 encS v l)(i:Nat)(hi:i<l.length)(x:ByteArray):
  ∃g c old,v= .slice (some ⟨g,0,none⟩) l.length c/\base<=g/\∀W,Ext w W->W.cell? ⟨g,i,none⟩=some old/\W.frozen? ⟨g,i,none⟩=false/\OwnL (W.setCell ⟨g,i,none⟩ (.string x)) base 9 1 encS (.slice (some ⟨g,0,none⟩) l.length c) (l.set i x):=by
 obtain⟨g,cap,spare,rfl,hb,hr0,hc1,hc2,hs,hfl⟩:=h.row (by omega);have h1:=Y0j encS 1 Z0d l i l[i] 0 (.string x) x hi rfl (by omega) rfl;have hle:i<(l.flatMap encS++spare).length:=by rw[aA,hfl];omega
 refine⟨g,cap,(l.flatMap encS++spare)[i],rfl,hb,fun W hW=> ?_⟩;have hr:=hr0.ext hW hr0.lt;refine⟨by rw[hr.cell];exact aB hle,hr.soft i,?_⟩;have h2:=hr.set i (.string x);rw[List.set_append_left _ _ (by rw[hfl];omega),show(l.flatMap encS).set i (.string x)=(l.set i x).flatMap encS by rw[<-h1];simp]at h2;have h3:=OwnL.ofRow (base:=base) (cap:=cap) (k:=1) (enc:=encS) h2 hb (by rw[List.length_set];exact hc1) hc2 (by rw[aA,Z0t Z0d,List.length_set];rw[aA,Z0t Z0d]at hs;exact hs) Z0d;rw[List.length_set]at h3;exact h3
theorem X0b{t p i:Nat}{F:Nat->Prop}{S:StoreD}{R:ByteArray->Nat->StoreD->Prop}(a d:Nat)(k v:ByteArray)(n:NodeD)(w:World)(ht:Z0b w t p i)(hnt:¬F t)(h:PagerAt w p F S)(hp:PageN S a n)(hl:n.leaf=true)(hr:Z3l n.keys)(hd:0<d)(hhas:hasB n.keys k=true)(hcut:X6e t p i a S (putN n k v) R):
  cQ 94 #[tp t,.int .i64 a,.int .i64 d,.string k,.string v] w fun e w'=>∃(mid:ByteArray) (right:Nat) (S':StoreD),e= .returned (.tuple #[.string mid,.int .i64 right,.int .i64 0])/\R mid right S'/\∃F',PagerAt w' p F' S'/\Keeps F F' w w':=by
 have cL:=X4z a n w ht h hp;have hvl:n.vals.length=n.keys.length:=(hp.ok.leafs hl).1;have hput:putN n k v= { n with vals:=n.vals.set (posB n.keys k) v}:=if_pos hhas;have hpos:posB n.keys k<n.keys.length:=by
  obtain⟨j,hj,hje⟩:=List.mem_iff_getElem.1 ((Z6k _ _).1 hhas);rw[X2f (l:=n.keys) (k:=k) (p:=j) (by omega) (fun q hq hlt=>by rw[<-hje];exact Z1u hr hj hlt) (fun q hq hle=> ?_)]
  ·exact hj
  ·rw[<-hje];rcases Nat.eq_or_lt_of_le hle with e | e
   ·subst e;exact Z1h _
   ·exact Z3f (Z1u hr hq e)
 have hlen:=hp.ok.many;have HT:=hD ht;have HNT:=hD hnt;have HG:=hD hp.given;have HRI:=hD hr;have HCUT:=hD hcut;have hlt:=ht.lt;have T0:decide ((d:Int)=0)=false:=aM;have HPOS:=hD hpos;have HVL:=hD hvl;have HP:Hid (∀W kv vv cv G,NodeAs W G { n with vals:=n.vals.set (posB n.keys k) v} kv vv cv->NodeAs W G (putN n k v) kv vv cv):=by rw[hput];exact fun W kv vv cv G q=>q
 have HPL:Hid ((putN n k v).leaf=true):=by rw[hput];exact hl
 have HLF:=hD hl;have HLEN:=hD hlen;obtain⟨pos,hpo⟩:∃pos,posB n.keys k=pos:=⟨_,rfl⟩;obtain⟨kn,hkn⟩:∃kn,n.keys.length=kn:=⟨_,rfl⟩;rw[hpo,hkn]at HPOS;rw[hpo]at HP;have B1:(pos:Int)<kn:=by have:=HPOS.out;omega
 have HPO:=hD hpo;have HKN:=hD hkn;have HHAS:=hD hhas;clear ht hnt h hp hr hcut hhas hput hl hlen hpos hvl hpo hkn;go_enter Tryz.func94,Tryz.ntmps94;go_wp2_with (first
  | (go_at_call 82;(with_reducible refine cL.mono ?_);clear cL;rintro e w1 ⟨kv,vv,cv,B,F1,rfl,hn1,hp1,hk1,hB,hF1⟩
     obtain⟨kA,kc,rfl⟩:=OwnL.form hn1.keys;obtain⟨vg,vc,old,rfl,hvb,hvs⟩:=OwnL.setS hn1.vals pos (by rw[HVL.out,HKN.out];exact HPOS.out) v;obtain⟨cA,cc,rfl⟩:=OwnL.form hn1.kids;rw[HVL.out,HKN.out]at hn1 hvs;rw[HLF.out,HVL.out,HKN.out];have HVS:=hD hvs;clear hvs;have HBV:Hid (B<=vg):=hn1.fv vg rfl;have HR1:Hid (Z0b w1 t p i):=hD (hk1.only.row HT.out HNT.out);have HNT1:Hid (¬F1 t):=hk1.out hlt HNT.out;have HTV:Hid (¬t=vg):=by have h8:=aE hlt hB;have h9:=HBV.out;intro e;omega
     have HN1:=hD hn1;have HP1:=hD hp1;have HK1:=hD hk1;have HB:=hD hB;have HF1:=hD hF1;have cS:Hid (∀W,Ext w1 W->cQ 138 #[.slice kA kn kc,.string k] W fun e w'=>e= .returned (.tuple #[.int .i64 pos,.bool true])/\W=w'):=fun W hW=>by have q:=Z4s k W (hn1.keys.ext hW) HRI.out (by have:=HLEN.out;omega);rw[HPO.out,HHAS.out]at q;exact q
     clear hn1 hp1 hk1 hB hF1)
  | (go_at_call 138;(with_reducible refine(cS.out _ (Ext.alloc _ _)).mono ?_);clear cS;rintro e w2 ⟨rfl,hW⟩
     have hx2:Ext w1 w2:=hW▸Ext.alloc _ _;have hr2:Row1 w2 w1.heap.size 166 [.bool true,.slice kA kn kc,.slice (some ⟨vg,0,none⟩) kn vc,.slice cA n.kids.length cc]:=hW▸Row1.made w1 _ _;clear hW;have hvlt:vg<w1.heap.size:=(HN1.out.vals.lt vg rfl).2;have d0:w2.cell? ⟨w1.heap.size,0,none⟩=some (.bool true):=hr2.cell 0;have d1:w2.cell? ⟨w1.heap.size,1,none⟩=some (.slice kA kn kc):=hr2.cell 1;have d2:w2.cell? ⟨w1.heap.size,2,none⟩=some (.slice (some ⟨vg,0,none⟩) kn vc):=hr2.cell 2;have d3:w2.cell? ⟨w1.heap.size,3,none⟩=some (.slice cA n.kids.length cc):=hr2.cell 3;have o1:w2.cell? ⟨vg,pos,none⟩=some old:=(HVS.out _ hx2).1;have o2:w2.frozen? ⟨vg,pos,none⟩=false:=(HVS.out _ hx2).2.1;have n1:¬(vg=w1.heap.size):=by omega
     have n2:¬(w1.heap.size=vg):=by omega
     have HX2:=hD hx2;have HR2:=hD hr2;have hW3:Only (fun j=>j=vg) w2 (w2.setCell ⟨vg,pos,none⟩ (.string v)):=Only.setCell (F:=fun j=>j=vg) (p:=⟨vg,pos,none⟩) Only.refl (.inl rfl) _;have hN3:NodeAs (w2.setCell ⟨vg,pos,none⟩ (.string v)) (fun j=>B<=j) { n with vals:=n.vals.set pos v} (.slice kA kn kc) (.slice (some ⟨vg,0,none⟩) kn vc) (.slice cA n.kids.length cc):=by have h2:=HN1.out.ext hx2;have h3:=(HVS.out _ hx2).2.2;exact⟨h2.keys.only hW3 (fun j q q'=>h2.sep j q (by rw[q'];rfl)),h3.lower (Nat.zero_le _),h2.kids.only hW3 (fun j q q'=>h2.kids.apart h2.vals (by decide) q (by rw[q'];rfl)),h2.sep,h2.fk,h2.fv,h2.fc⟩
     have cC:=HCUT.out (w2.setCell ⟨vg,pos,none⟩ (.string v)) _ _ _ _ _ (hW3.row (HR1.out.ext hx2 HR1.out.lt) (fun q=>HTV.out q)) (fun q=>HNT1.out q) ((HP1.out.ext hx2).only hW3 (fun j q q'=>by subst q';have h8:=HF1.out _ q;have h9:=HBV.out;omega)) (HP.out _ _ _ _ _ hN3) (fun j q q'=>by have h8:=HF1.out _ q;have h9:B<=j:=q';omega);rw[HPL.out]at cC;have HX3:Hid (Only (fun j=>j=vg) w1 (w2.setCell ⟨vg,pos,none⟩ (.string v))):=(Only.of hx2).trans' hW3;clear hx2 hr2 hW3 hN3)
  | (go_at_call 153;(with_reducible refine cC.mono ?_);clear cC;rintro e w4 ⟨mid,right,S4,rfl,hcr,F4,hp4,hk4⟩;have HCR:=hD hcr;have HP4:=hD hp4;have HK4:=hD hk4;clear hcr hp4 hk4))
 go_ret3
 exact⟨mid,right,S4,rfl,HCR.out,F4,HP4.out,Keeps.trans (HK1.out.side HX3.out (fun j q=>by subst q;have:=HB.out;have:=HBV.out;omega)) HK4.out⟩
structure Boxed (w1 W:World) (B D:Nat) (n:NodeD) (kv vv cv:Value):Prop where
 own:NodeAs W (fun j=>B<=j) n kv vv cv
 row:Row1 W D 166 [.bool n.leaf,kv,vv,cv]
 only:Only (fun j=>B<=j) w1 W
 bd:B<=D
section
variable {w1 W w3:World} {B D:Nat} {n:NodeD} {kv vv cv:Value}
theorem Boxed.ext(h:Boxed w1 W B D n kv vv cv)(hb:Ext W w3):Boxed w1 w3 B D n kv vv cv:=⟨h.own.ext hb,h.row.ext hb h.row.lt,h.only.ext hb,h.bd⟩
theorem Boxed.made(h:NodeAs w1 (fun j=>B<=j) n kv vv cv)(hB:B<=w1.heap.size)(hW:w1.alloc (.cells #[.bool n.leaf,kv,vv,cv] 166)=W):Boxed w1 W B w1.heap.size n kv vv cv:=by subst hW;exact⟨h.ext (Ext.alloc _ _),Row1.made w1 _ _,Only.of (Ext.alloc _ _),hB⟩
theorem Boxed.keysD(h:Boxed w1 W B D n kv vv cv):kv.ownBlock≠some D:=h.own.keys.apartRow h.row (by decide)
theorem Boxed.valsD(h:Boxed w1 W B D n kv vv cv):vv.ownBlock≠some D:=h.own.vals.apartRow h.row (by decide)
theorem Y5o(w:World)(D o:Nat)(u:Value):Only (fun j=>j=D) w (w.setCell ⟨D,o,none⟩ u):=Only.setCell (F:=fun j=>j=D) (p:=⟨D,o,none⟩) Only.refl (.inl rfl) u
theorem Boxed.rowK(h:Boxed w1 W B D n kv vv cv)(hx:Only (fun j=>kv.ownBlock=some j) W w3):Row1 w3 D 166 [.bool n.leaf,kv,vv,cv]:=hx.row h.row h.keysD
theorem Boxed.rowV(h:Boxed w1 W B D n kv vv cv)(hx:Only (fun j=>vv.ownBlock=some j) W w3):Row1 w3 D 166 [.bool n.leaf,kv,vv,cv]:=hx.row h.row h.valsD
theorem Boxed.setK(h:Boxed w1 W B D n kv vv cv){kv':Value}{K':List ByteArray}(hown:OwnL w3 0 9 1 encS kv' K')(hwh:∀b,kv'.ownBlock=some b->kv.ownBlock=some b\/W.heap.size<=b)(hx:Only (fun j=>kv.ownBlock=some j) W w3):
  Boxed w1 (w3.setCell ⟨D,1,none⟩ kv') B D { n with keys:=K'} kv' vv cv:=by
 have ho:=Y5o w3 D 1 kv';have hr3:=h.rowK hx;have hlt:=h.row.lt;have hv3:=h.own.vals.only hx (fun k q q'=>h.own.sep k q' q);have hc3:=h.own.kids.only hx (fun k q q'=>h.own.kids.apart h.own.keys (by decide) q q');have hF:∀b,kv'.ownBlock=some b->B<=b:=fun b q=>by
  rcases hwh b q with r | r
  ·exact h.own.fk b r
  ·have:=h.bd;omega
 refine⟨⟨hown.only ho (fun k q q'=>hown.apartRow hr3 (by decide) (by rw[q,q'])),hv3.only ho (fun k q q'=>hv3.apartRow hr3 (by decide) (by rw[q,q'])),hc3.only ho (fun k q q'=>hc3.apartRow hr3 (by decide) (by rw[q,q'])),fun b q q'=> ?_,hF,h.own.fv,h.own.fc⟩,hr3.set 1 kv',?_,h.bd⟩
 ·rcases hwh b q with r | r
  ·exact h.own.sep b r q'
  ·have:=(h.own.vals.lt b q').2;omega
 ·exact(h.only.trans' (hx.mono (fun i q=> .inl (h.own.fk i q)))).trans' (ho.mono (fun i q=> .inl (by have:=h.bd;omega)))
theorem Boxed.setV(h:Boxed w1 W B D n kv vv cv){vv':Value}{V':List ByteArray}(hown:OwnL w3 0 9 1 encS vv' V')(hwh:∀b,vv'.ownBlock=some b->vv.ownBlock=some b\/W.heap.size<=b)(hx:Only (fun j=>vv.ownBlock=some j) W w3):
  Boxed w1 (w3.setCell ⟨D,2,none⟩ vv') B D { n with vals:=V'} kv vv' cv:=by
 have ho:=Y5o w3 D 2 vv';have hr3:=h.rowV hx;have hlt:=h.row.lt;have hk3:=h.own.keys.only hx (fun k q q'=>h.own.sep k q q');have hc3:=h.own.kids.only hx (fun k q q'=>h.own.kids.apart h.own.vals (by decide) q q');have hF:∀b,vv'.ownBlock=some b->B<=b:=fun b q=>by
  rcases hwh b q with r | r
  ·exact h.own.fv b r
  ·have:=h.bd;omega
 refine⟨⟨hk3.only ho (fun k q q'=>hk3.apartRow hr3 (by decide) (by rw[q,q'])),hown.only ho (fun k q q'=>hown.apartRow hr3 (by decide) (by rw[q,q'])),hc3.only ho (fun k q q'=>hc3.apartRow hr3 (by decide) (by rw[q,q'])),fun b q q'=> ?_,h.own.fk,hF,h.own.fc⟩,hr3.set 2 vv',?_,h.bd⟩
 ·rcases hwh b q' with r | r
  ·exact h.own.sep b q r
  ·have:=(h.own.keys.lt b q).2;omega
 ·exact(h.only.trans' (hx.mono (fun i q=> .inl (h.own.fv i q)))).trans' (ho.mono (fun i q=> .inl (by have:=h.bd;omega)))
end
theorem Z1m{t p i:Nat}{F:Nat->Prop}{S:StoreD}(a:Nat)(n:NodeD)(w:World)(ht:Z0b w t p i)(h:PagerAt w p F S)(hp:PageN S a n):
  cQ 82 #[tp t,.int .i64 a] w fun e w'=>∃kA kn kc vA vn vc cA cn cc B F',e= .returned (.tuple #[.agg #[.bool n.leaf,.slice kA kn kc,.slice vA vn vc,.slice cA cn cc],.int .i64 0])/\NodeAs w' (fun i=>B<=i) n (.slice kA kn kc) (.slice vA vn vc) (.slice cA cn cc)/\PagerAt w' p F' S/\Keeps F F' w w'/\w.heap.size<=B/\(∀i,F' i->i<B)/\B<=w'.heap.size:=by
 refine(X4z a n w ht h hp).mono ?_;rintro e w1 ⟨kv,vv,cv,B,F1,rfl,hn1,hp1,hk1,hB,hF1⟩;obtain⟨kA,kc,rfl⟩:=OwnL.form hn1.keys;obtain⟨vA,vc,rfl⟩:=OwnL.form hn1.vals;obtain⟨cA,cc,rfl⟩:=OwnL.form hn1.kids;have hs:=hk1.only.size;refine⟨_,_,_,_,_,_,_,_,_,Nat.min B w1.heap.size,_,rfl,hn1.mono (fun i q=>Nat.le_trans (Nat.min_le_left _ _) q),hp1.shrink,hk1.shrink,Nat.le_min.2 ⟨hB,hs⟩,fun i q=>Nat.lt_min.2 ⟨hF1 i q.1,q.2⟩,Nat.min_le_right _ _⟩
theorem X0a{t p i:Nat}{F:Nat->Prop}{S:StoreD}{R:ByteArray->Nat->StoreD->Prop}(a d:Nat)(k v:ByteArray)(n:NodeD)(w:World)(ht:Z0b w t p i)(hnt:¬F t)(h:PagerAt w p F S)(hp:PageN S a n)(hl:n.leaf=true)(hr:Z3l n.keys)(hd:0<d)(hhas:hasB n.keys k=false)(hcut:X6e t p i a S (putN n k v) R):
  cQ 94 #[tp t,.int .i64 a,.int .i64 d,.string k,.string v] w fun e w'=>∃(mid:ByteArray) (right:Nat) (S':StoreD),e= .returned (.tuple #[.string mid,.int .i64 right,.int .i64 0])/\R mid right S'/\∃F',PagerAt w' p F' S'/\Keeps F F' w w':=by
 have cL:=Z1m a n w ht h hp;have hvl:n.vals.length=n.keys.length:=(hp.ok.leafs hl).1;have hput:putN n k v= { n with keys:=insL n.keys (posB n.keys k) k,vals:=insL n.vals (posB n.keys k) v}:=if_neg (by rw[hhas];decide);have hpos:posB n.keys k<=n.keys.length:=Y1i _ _;have hlen:=hp.ok.many;have HT:=hD ht;have HNT:=hD hnt;have HG:=hD hp.given;have HRI:=hD hr;have HCUT:=hD hcut;have hlt:=ht.lt;have T0:decide ((d:Int)=0)=false:=aM;have HPOS:=hD hpos;have HVL:=hD hvl;have HP:Hid (∀W kv vv cv G,NodeAs W G { n with keys:=insL n.keys (posB n.keys k) k,vals:=insL n.vals (posB n.keys k) v} kv vv cv->NodeAs W G (putN n k v) kv vv cv):=by rw[hput];exact fun W kv vv cv G q=>q
 have HPL:Hid ((putN n k v).leaf=true):=by rw[hput];exact hl
 have HLF:=hD hl;have HLEN:=hD hlen;obtain⟨pos,hpo⟩:∃pos,posB n.keys k=pos:=⟨_,rfl⟩;rw[hpo]at HPOS HP;have HPO:=hD hpo;have HHAS:=hD hhas;clear ht hnt h hp hr hcut hhas hput hl hlen hpos hvl hpo;go_enter Tryz.func94,Tryz.ntmps94;go_wp2_with (first
  | (go_at_call 82;(with_reducible refine cL.mono ?_);clear cL;rintro e w1 ⟨kA,kn,kc,vA,vn,vc,cA,cn,cc,B,F1,rfl,hn1,hp1,hk1,hB,hF1,hBW⟩
     rw[HLF.out];have HR1:Hid (Z0b w1 t p i):=hD (hk1.only.row HT.out HNT.out);have HNT1:Hid (¬F1 t):=hk1.out hlt HNT.out;have HTB:Hid (¬B<=t):=by have h8:=aE hlt hB;intro e;omega
     have HBW:Hid (B<=w1.heap.size):=hD hBW;have HN1:=hD hn1;have HP1:=hD hp1;have HK1:=hD hk1;have HB:=hD hB;have HF1:=hD hF1;have cS:Hid (∀W,Ext w1 W->cQ 138 #[.slice kA kn kc,.string k] W fun e w'=>e= .returned (.tuple #[.int .i64 pos,.bool false])/\W=w'):=fun W hW=>by have q:=Z4s k W (hn1.keys.ext hW) HRI.out (by have:=HLEN.out;omega);rw[HPO.out,HHAS.out]at q;exact q
     clear hn1 hp1 hk1 hB hF1)
  | (go_at_call 138;(with_reducible refine(cS.out _ (Ext.alloc _ _)).mono ?_);clear cS;rintro e w2 ⟨rfl,hW⟩
     have hb2:Boxed w1 w2 B w1.heap.size n (.slice kA kn kc) (.slice vA vn vc) (.slice cA cn cc):=Boxed.made HN1.out HBW.out (by rw[HLF.out];exact hW);clear hW;have d0:w2.cell? ⟨w1.heap.size,0,none⟩=some (.bool true):=by rw[hb2.row.cell,HLF.out];rfl
     have d1:w2.cell? ⟨w1.heap.size,1,none⟩=some (.slice kA kn kc):=hb2.row.cell 1;have cI:=Y8m k w2.heap.size pos (w2.alloc (.cells #[.string k] 9)) (hb2.own.keys.alloc _) HPOS.out (Row1.made w2 _ [.string k]) (fun q=>by have:=(hb2.own.keys.lt _ q).2;omega) (by have:=HLEN.out;omega);have HB2:=hD (hb2.ext (Ext.alloc w2 (.cells #[.string k] 9)));have HLT:=hD hb2.row.lt;clear hb2)
  | (go_at_call 152;(with_reducible refine cI.mono ?_);clear cI;rintro e w4 ⟨kv',rfl,h1,h2,h3⟩
     obtain⟨kA',kn',kc',rfl⟩:∃kA kn kc,kv'= .slice kA kn kc:=let ⟨A,c,q⟩:=OwnL.form h1;⟨A,_,c,q⟩;have hb4:=HB2.out.setK h1 h2 h3;have hr4:=HB2.out.rowK h3;have e1:w4.cell? ⟨w1.heap.size,1,none⟩=some (.slice kA kn kc):=hr4.cell 1;have e2:w4.cell? ⟨w1.heap.size,2,none⟩=some (.slice vA vn vc):=hr4.cell 2;have e3:w4.frozen? ⟨w1.heap.size,1,none⟩=false:=hr4.soft 1;have cJ:=Y8m v (w4.setCell ⟨w1.heap.size,1,none⟩ (.slice kA' kn' kc')).heap.size pos ((w4.setCell ⟨w1.heap.size,1,none⟩ (.slice kA' kn' kc')).alloc (.cells #[.string v] 9)) (hb4.own.vals.alloc _) (by show pos<=n.vals.length;rw[HVL.out];exact HPOS.out) (Row1.made _ _ [.string v]) (fun q=>by have:=(hb4.own.vals.lt _ q).2;omega) (by show n.vals.length<=100000;have:=HLEN.out;have:=HVL.out;omega);rw[Z1z]at cJ;have HB4:=hD (hb4.ext (Ext.alloc _ (.cells #[.string v] 9)));clear hb4 hr4 h1 h2 h3)
  | (go_at_call 152;(with_reducible refine cJ.mono ?_);clear cJ;rintro e w7 ⟨vv',rfl,h1,h2,h3⟩
     obtain⟨vA',vn',vc',rfl⟩:∃kA kn kc,vv'= .slice kA kn kc:=let ⟨A,c,q⟩:=OwnL.form h1;⟨A,_,c,q⟩;have hb7:=HB4.out.setV h1 h2 h3;have hr7:=HB4.out.rowV h3;have g0:w7.cell? ⟨w1.heap.size,0,none⟩=some (.bool true):=by rw[hr7.cell];show some (Value.bool n.leaf)=_;rw[HLF.out]
     have g1:w7.cell? ⟨w1.heap.size,1,none⟩=some (.slice kA' kn' kc'):=hr7.cell 1;have g2:w7.cell? ⟨w1.heap.size,2,none⟩=some (.slice vA vn vc):=hr7.cell 2;have g3:w7.cell? ⟨w1.heap.size,3,none⟩=some (.slice cA cn cc):=hr7.cell 3;have g4:w7.frozen? ⟨w1.heap.size,2,none⟩=false:=hr7.soft 2;have cC:=HCUT.out (w7.setCell ⟨w1.heap.size,2,none⟩ (.slice vA' vn' vc')) _ _ _ _ _ (hb7.only.row HR1.out HTB.out) HNT1.out (HP1.out.only hb7.only (fun j q q'=>by have h8:=HF1.out _ q;omega)) (HP.out _ _ _ _ _ hb7.own) (fun j q q'=>by have h8:=HF1.out _ q;have h9:B<=j:=q';omega);rw[HPL.out]at cC;have HB7:=hD hb7.only;clear hb7 hr7 h1 h2 h3)
  | (go_at_call 153;(with_reducible refine cC.mono ?_);clear cC;rintro e w8 ⟨mid,right,S4,rfl,hcr,F4,hp4,hk4⟩;have HCR:=hD hcr;have HP4:=hD hp4;have HK4:=hD hk4;clear hcr hp4 hk4))
 go_ret3
 exact⟨mid,right,S4,rfl,HCR.out,F4,HP4.out,Keeps.trans (HK1.out.side HB7.out (fun j q=>by have:=HB.out;omega)) HK4.out⟩
def V9l(S:StoreD):Nat->Nat->Prop
 | 0,a=>∃n,PageN S a n/\n.leaf=true
 | d+1,a=>∃n,PageN S a n/\n.leaf=false/\V9l S d (n.kids[0]?.getD 0).toNat
def U0o(S:StoreD)(d:Nat):Nat:=if Z0z S<d+2 then 13 else 0
theorem V6t{w:World}{v:Value}{base:Nat}{l:List Int}(h:OwnL w base 3 1 encN v l)(hl:0<l.length):∃g c,v= .slice (some ⟨g,0,none⟩) l.length c/\g<w.heap.size/\w.cell? ⟨g,0,none⟩=some (.int .i64 (l[0]?.getD 0)):=by obtain⟨A,c,rfl,_,_,hx⟩:=X0i h;obtain⟨b,rfl,_,hb,_,hc⟩:=hx hl;have:=hc 0 hl;exact⟨b,c,rfl,hb,by rw[aB hl];exact this⟩
theorem V6a{t p i:Nat}{F:Nat->Prop}{S:StoreD}(a d:Nat)(w:World)(ht:Z0b w t p i)(hnt:¬F t)(h:PagerAt w p F S)(hs:V9l S d a)(hd:d<32):
  cQ 93 #[tp t,.int .i64 a] w fun e w'=>e= .returned (.int .i64 (U0o S d))/\∃F',PagerAt w' p F' S/\Keeps F F' w w':=by
 have HS:=hD hs;have HT:=hD ht;have HNT:=hD hnt;have HP:=hD h;have HTL:=hD ht.lt;have HR:Hid (U0o S d=if Z0z S<d+2 then 13 else 0):=rfl;obtain⟨r,hr⟩:∃r,Z0z S=r:=⟨_,rfl⟩;rw[hr]at HR;have HRR:Hid (∀W F1,PagerAt W p F1 S->cQ 35 #[tp p] W fun e w'=>e= .returned (.int .i64 r)/\∃F',PagerAt w' p F' S/\Keeps F1 F' W w'):=by rw[<-hr];exact fun W F1 q=>V0z W q
 clear hs ht hnt h hr;go_enter Tryz.func93,Tryz.ntmps93;go_wp2_with fail
 go_loopw [1,5,8] (fun x y z wr=>∃(k j b:Nat),k+j=d/\x= .int .i64 b/\y= .int .i64 ((k:Int)+1)/\z= .int .i64 k/\Hid (V9l S j b)/\∃Fr,Hid (PagerAt wr p Fr S)/\Hid (Keeps F Fr w wr)) (fun _ _ z _=>d-(intOf z).toNat)
 case atStart=>exact⟨0,d,a,by omega,rfl,rfl,rfl,HS,F,HP,Keeps.refl⟩
 case round=>
  obtain⟨k,j,b,hk,rfl,rfl,rfl,hsp,Fr,hpr,hkr⟩:=hrel;have q1:decide ((k:Int)<32)=true:=aN;have hnr:¬Fr t:=hkr.out.out HTL.out HNT.out;have htr:Z0b wr t p i:=hkr.out.only.row HT.out HNT.out;cases j with
  | zero=>
    obtain⟨n,hn,hl⟩:=hsp.out;have cL:=Z1m b n wr htr hpr.out hn;have HNR:=hD hnr;have HTR:=hD htr;have HKR:=hkr;have HHD:=hD hk;rw[hl]at cL;clear hn hl hnr htr hpr hkr hsp;obtain⟨bb,hbb⟩:∃bb,decide ((r:Int)<(k:Int)+1+1)=bb:=⟨_,rfl⟩;have HBB:=hD hbb;cases bb
    ·go_wp2_with (first
      | (go_at_call 82;(with_reducible refine cL.mono ?_);clear cL;rintro e w1 ⟨kA,kn,kc,vA,vn,vc,cA,cn,cc,B,F1,rfl,hn1,hp1,hk1,hB,hF1,hBW⟩
         have hr1:Z0b (w1.alloc (.cells #[.bool true,.slice kA kn kc,.slice vA vn vc,.slice cA cn cc] 166)) t p i:=Row1.alloc (hk1.only.row HTR.out HNR.out) _;have c0:(w1.alloc (.cells #[.bool true,.slice kA kn kc,.slice vA vn vc,.slice cA cn cc] 166)).cell? ⟨t,0,none⟩=some (tp p):=hr1.cell 0;have cR:=HRR.out _ _ (hp1.ext (Ext.alloc w1 (.cells #[.bool true,.slice kA kn kc,.slice vA vn vc,.slice cA cn cc] 166)));have HK1:Hid (Keeps F F1 w (w1.alloc (.cells #[.bool true,.slice kA kn kc,.slice vA vn vc,.slice cA cn cc] 166))):=Keeps.ext (Keeps.trans HKR.out hk1) (Ext.alloc _ _);clear hn1 hp1 hk1 hB hF1 hBW hr1)
      | (go_at_call 35;(with_reducible refine cR.mono ?_);clear cR;rintro e w2 ⟨rfl,F2,hp2,hk2⟩;have HP2:=hD hp2;have HK2:=hD hk2;clear hp2 hk2))
     go_ret;refine⟨?_,F2,HP2.out,Keeps.trans HK1.out HK2.out⟩;rw[HR.out,if_neg (by have:=of_decide_eq_false HBB.out;have:=HHD.out;omega)];rfl
    ·go_wp2_with (first
      | (go_at_call 82;(with_reducible refine cL.mono ?_);clear cL;rintro e w1 ⟨kA,kn,kc,vA,vn,vc,cA,cn,cc,B,F1,rfl,hn1,hp1,hk1,hB,hF1,hBW⟩
         have hr1:Z0b (w1.alloc (.cells #[.bool true,.slice kA kn kc,.slice vA vn vc,.slice cA cn cc] 166)) t p i:=Row1.alloc (hk1.only.row HTR.out HNR.out) _;have c0:(w1.alloc (.cells #[.bool true,.slice kA kn kc,.slice vA vn vc,.slice cA cn cc] 166)).cell? ⟨t,0,none⟩=some (tp p):=hr1.cell 0;have cR:=HRR.out _ _ (hp1.ext (Ext.alloc w1 (.cells #[.bool true,.slice kA kn kc,.slice vA vn vc,.slice cA cn cc] 166)));have HK1:Hid (Keeps F F1 w (w1.alloc (.cells #[.bool true,.slice kA kn kc,.slice vA vn vc,.slice cA cn cc] 166))):=Keeps.ext (Keeps.trans HKR.out hk1) (Ext.alloc _ _);clear hn1 hp1 hk1 hB hF1 hBW hr1)
      | (go_at_call 35;(with_reducible refine cR.mono ?_);clear cR;rintro e w2 ⟨rfl,F2,hp2,hk2⟩;have HP2:=hD hp2;have HK2:=hD hk2;clear hp2 hk2))
     go_ret;refine⟨?_,F2,HP2.out,Keeps.trans HK1.out HK2.out⟩;rw[HR.out,if_pos (by have:=of_decide_eq_true HBB.out;have:=HHD.out;omega)];rfl
  | succ j=>
    obtain⟨n,hn,hl,hsn⟩:=hsp.out;have cL:=Z1m b n wr htr hpr.out hn;have hkl:=(hn.ok.inner hl).2;have hk0:0<n.kids.length:=by omega
    have hc0:(0:Int)<=n.kids[0]?.getD 0:=by rw[aB hk0];exact(hn.ok.kids _ (List.getElem_mem _)).1
    have HNR:=hD hnr;have HTR:=hD htr;have HKR:=hkr;have HSN:=hD hsn;have HK0:=hD hk0;have HC:Hid ((((n.kids[0]?.getD 0).toNat:Nat):Int)=n.kids[0]?.getD 0):=Int.toNat_of_nonneg hc0;rw[hl]at cL;clear hn hl hnr htr hpr hkr hsp hsn hkl hk0 hc0;go_wp2_with (first
     | (go_at_call 82;(with_reducible refine cL.mono ?_);clear cL;rintro e w1 ⟨kA,kn,kc,vA,vn,vc,cA,cn,cc,B,F1,rfl,hn1,hp1,hk1,hB,hF1,hBW⟩
        obtain⟨g,c,hcv,hg,hgc⟩:=V6t hn1.kids HK0.out;obtain⟨x,hx⟩:∃x,(n.kids[0]?.getD 0).toNat=x:=⟨_,rfl⟩;injection hcv with e1 e2 e3;subst e1 e3;have q3:decide (0<cn)=true:=decide_eq_true (by have:=HK0.out;omega);have q4:0<cn:=by have:=HK0.out;omega
        have d0:(w1.alloc (.cells #[.bool false,.slice kA kn kc,.slice vA vn vc,.slice (some ⟨g,0,none⟩) cn cc] 166)).cell? ⟨g,0,none⟩=some (.int .i64 x):=by rw[(Ext.alloc w1 _).cell (p:=⟨g,0,none⟩) hg,hgc,<-hx,HC.out]
        have HX:=hD hx;have HK1:Hid (Keeps F F1 w (w1.alloc (.cells #[.bool false,.slice kA kn kc,.slice vA vn vc,.slice (some ⟨g,0,none⟩) cn cc] 166))):=Keeps.ext (Keeps.trans HKR.out hk1) (Ext.alloc _ _);have HP1:Hid (PagerAt (w1.alloc (.cells #[.bool false,.slice kA kn kc,.slice vA vn vc,.slice (some ⟨g,0,none⟩) cn cc] 166)) p F1 S):=hp1.ext (Ext.alloc _ _);clear hn1 hp1 hk1 hB hF1 hBW hx hgc e2))
    go_roundw
    case rel=>exact⟨k+1,j,x,by omega,by go_num,by go_num,by go_num,hD (by have q:=HSN.out;rw[HX.out]at q;exact q),F1,HP1,HK1⟩
    case measure=>simp[intOf];omega
def Z5b(k v:ByteArray):NodeD:=⟨true,[k],[v],[]⟩
theorem V7l(w:World)(k v:ByteArray):NodeAs ((w.alloc (.cells #[.string k] 9)).alloc (.cells #[.string v] 9)) (fun i=>w.heap.size<=i) (Z5b k v) (.slice (some ⟨w.heap.size,0,none⟩) 1 1) (.slice (some ⟨w.heap.size+1,0,none⟩) 1 1) (.slice none 0 0):=by
 have h1:Row1 ((w.alloc (.cells #[.string k] 9)).alloc (.cells #[.string v] 9)) w.heap.size 9 (([k].flatMap encS)++ []):=Row1.alloc (Row1.made w _ [.string k]) _;have h2:Row1 ((w.alloc (.cells #[.string k] 9)).alloc (.cells #[.string v] 9)) (w.heap.size+1) 9 (([v].flatMap encS)++ []):=Row1.made' (by simp) _ [.string v];refine⟨OwnL.ofRow (k:=1) h1 (Nat.zero_le _) (aF 1) (by decide) rfl Z0d,OwnL.ofRow (k:=1) h2 (Nat.zero_le _) (aF 1) (by decide) rfl Z0d,OwnL.nil _ _ _ _ _,fun b q q'=> ?_,fun b q=> ?_,fun b q=> ?_,fun b q=> ?_⟩
 ·have e1:w.heap.size=b:=Option.some.inj q;have e2:w.heap.size+1=b:=Option.some.inj q';omega
 ·have e1:w.heap.size=b:=Option.some.inj q;omega
 ·have e2:w.heap.size+1=b:=Option.some.inj q;omega
 ·cases q
theorem Y9r{k:ByteArray}(h:0<k.size):¬k.toList= []:=fun e=>by
 have h1:eqB k ⟨#[]⟩=true:=by unfold eqB;rw[e,ByteArray.toList_eq];rfl
 rw[(Z7u _ _).1 h1]at h;exact absurd h (by decide)
theorem V6f{t p i:Nat}{F:Nat->Prop}{S:StoreD}(a:Nat)(k v:ByteArray)(w:World)(ht:Z0b w t p i)(hnt:¬F t)(h:PagerAt w p F S)(hi:i<16)(hroot:Z1w S i=0)(ha:lowS S=some a)(hk0:0<k.size)(hk:k.size<=32)(hv:v.size<=80):
  cQ 34 #[tp t,.string k,.string v] w fun e w'=>e= .returned (.int .i64 0)/\∃F',PagerAt w' p F' (Z0q (layP (Z1f S a) a (Z5b k v)) i a)/\Keeps F F' w w':=by
 have cR:=Z4d w ht hnt h hi;rw[hroot]at cR;have hkk:¬k.toList= []:=Y9r hk0;have hke:k.toList.isEmpty=false:=by cases h9:k.toList with | nil=>exact absurd h9 hkk | cons _ _=>rfl
 have hkd:decide ((32:Int)<(k.size:Int))=false:=aM;have hvd:decide ((80:Int)<(v.size:Int))=false:=aM;have hkd':decide ((32:Nat)<k.size)=false:=aM;have hvd':decide ((80:Nat)<v.size)=false:=aM;have HA:=hD ha;have HT:=hD ht;have HNT:=hD hnt;have HTL:=hD ht.lt;have HK:=hD hk;have HV:=hD hv;have HI:=hD hi;have hlo:=Z4z ha;have hmo:=h.most;have hfu:=h.full;have hg1:Z0s (Z1f S a) a:=⟨hlo.1,hlo.2.1,by rw[Y5x hfu (by omega) (by omega),if_pos rfl]⟩;have hnk:NodeOk (Z5b k v):=⟨fun x hx=>by simp[Z5b]at hx;subst hx;omega,fun x hx=>by simp[Z5b]at hx;subst hx;omega,fun c hc=>by simp[Z5b]at hc,by simp[Z5b],fun _=>⟨rfl,rfl⟩,fun q=>by cases q⟩;have hsz:Z0n (Z5b k v)<=256:=by simp[Z0n,Z5b,Z0o];omega
 have HGV:Hid (Z0s (layP (Z1f S a) a (Z5b k v)) a):=⟨hlo.1,hlo.2.1,by rw[layP,Z9n (by omega)];exact hg1.2.2⟩;have HLAY:Hid (∀W F2,Z0b W t p i->¬F2 t->PagerAt W p F2 (Z1f S a)->cQ 92 #[tp t,.int .i64 a,.agg #[.bool true,.slice (some ⟨W.heap.size,0,none⟩) 1 1,.slice (some ⟨W.heap.size+1,0,none⟩) 1 1,.slice none 0 0]] ((W.alloc (.cells #[.string k] 9)).alloc (.cells #[.string v] 9)) fun e w'=>e= .returned (.int .i64 0)/\∃F',PagerAt w' p F' (layP (Z1f S a) a (Z5b k v))/\Keeps F2 F' ((W.alloc (.cells #[.string k] 9)).alloc (.cells #[.string v] 9)) w'):=fun W F2 q1 q2 q3=>
  Y1p a (Z5b k v) _ (Row1.alloc (Row1.alloc q1 _) _) q2 (q3.ext (Ext.trans (Ext.alloc _ _) (Ext.alloc _ _))) hg1 hnk hsz (V7l W k v)
 clear ht hnt h hroot ha hk0 hk hv hi hlo hmo hfu hg1 hnk hsz;go_enter Tryz.func34,Tryz.ntmps34;go_upto_region 15 with (first
  | (go_at_call 78;(with_reducible refine cR.mono ?_);clear cR;rintro e w1 ⟨rfl,F1,hp1,hk1⟩
     have hr1:Z0b w1 t p i:=hk1.only.row HT.out HNT.out;have c0:w1.cell? ⟨t,0,none⟩=some (tp p):=hr1.cell 0;have cA:=Y1k a w1 hp1 HA.out;have HR1:=hD hr1;have HN1:Hid (¬F1 t):=hk1.out HTL.out HNT.out;have HK1:=hD hk1;clear hp1 hk1 hr1)
  | (go_at_call 91;(with_reducible refine cA.mono ?_);clear cA;rintro e w2 ⟨rfl,F2,hp2,hk2⟩
     have hr2:Z0b w2 t p i:=hk2.only.row HR1.out HN1.out;have hn2:¬F2 t:=hk2.out HR1.out.lt HN1.out;have HR2:=hD hr2;have HN2:=hD hn2;have HP2:=hD hp2;have HK2:Hid (Keeps F F2 w w2):=Keeps.trans HK1.out hk2;clear hp2 hk2 hr2 hn2)
  | (go_at_call 92;(with_reducible refine(HLAY.out w2 F2 HR2.out HN2.out HP2.out).mono ?_);clear HLAY;rintro e w3 ⟨rfl,F3,hp3,hk3⟩
     have hx:Ext w2 ((w2.alloc (.cells #[.string k] 9)).alloc (.cells #[.string v] 9)):=Ext.trans (Ext.alloc _ _) (Ext.alloc _ _);have hk23:Keeps F2 F3 w2 w3:=Keeps.trans (Keeps.of hx) hk3;have hr3:Z0b w3 t p i:=hk23.only.row HR2.out HN2.out;have HR3:=hD hr3;have HN3:Hid (¬F3 t):=hk23.out HR2.out.lt HN2.out;have HP3:=hD hp3;have HK3:Hid (Keeps F F3 w w3):=Keeps.trans HK2.out hk23;clear hx hk23 hr3 hp3 hk3))
 have HC:Hid (∀W,Ext w3 W->W.cell? ⟨t,0,none⟩=some (tp p)/\W.cell? ⟨t,1,none⟩=some (.int .i64 i)):=fun W hW=>⟨(HR3.out.ext hW HR3.out.lt).cell 0,(HR3.out.ext hW HR3.out.lt).cell 1⟩;have cT:Hid (∀W,Ext w3 W->cQ 83 #[tp p,.int .i64 i,.int .i64 a] W fun e w'=>e= .returned (.int .i64 0)/\∃F',PagerAt w' p F' (Z0q (layP (Z1f S a) a (Z5b k v)) i a)/\Keeps F3 F' W w'):=fun W hW=>Z6g i a W (HP3.out.ext hW) HI.out (.inr HGV.out);refine wp_region_held_drew (S:=fun W=>W.cell? ⟨t,0,none⟩=some (tp p)/\W.cell? ⟨t,1,none⟩=some (.int .i64 i)) (by kernel_rfl) (HC.out _ (by exact Xt)) (fun hHeld=> ?_);refine' tk 0 ?_;refine' tk 1 ?_;refine' tk 2 ?_;refine' tk 3 ?_;refine' tk 4 ?_;refine' tk 5 ?_;refine' tk 6 ?_;refine' tk 7 ?_;refine' tk 8 ?_;refine stp 9 (fun K hK=> ?_);go_simp
 (with_reducible refine(cT.out _ ?_).mono ?_)
 ·exact Xt
 rintro e w4 ⟨rfl,F4,hp4,hk4⟩;have hk34:Keeps F3 F4 w3 w4:=Keeps.trans (Keeps.of (by exact Xt)) hk4;have hr4:Z0b w4 t p i:=hk34.only.row HR3.out HN3.out;have HC9:Hid (w4.cell? ⟨t,0,none⟩=some (tp p)/\w4.cell? ⟨t,1,none⟩=some (.int .i64 i)):=⟨hr4.cell 0,hr4.cell 1⟩;have HP4:=hD hp4;have HK4:Hid (Keeps F F4 w w4):=Keeps.trans HK3.out hk34;clear hp4 hk4 hk34 hr4
 (try dsimp only)
 (try go_simp)
 refine hK.out _ _ (HC9.out) (fun hHeld=> ?_);clear hK K;refine pt ?_;refine' tk 10 ?_;refine wpAnyH_done (by kernel_rfl) ?_ _;go_wp2_with fail;go_ret;exact⟨rfl,F4,HP4.out,HK4.out⟩
def V9m(S:StoreD)(k:ByteArray):Nat->Nat->NodeD->Prop
 | 0,a,n=>PageN S a n/\n.leaf=true/\Z3l n.keys
 | d+1,a,n=>∃m,PageN S a m/\m.leaf=false/\Z3l m.keys/\V9m S k d (m.kids[Z0h m.keys k]?.getD 0).toNat n
def getN(n:NodeD)(k:ByteArray):Value:=if hasB n.keys k=true then .tuple #[.string (n.vals[posB n.keys k]?.getD ⟨#[]⟩),.int .i64 0]else .tuple #[.string ⟨#[]⟩,.int .i64 6]
theorem Z6p{w:World}{v:Value}{base:Nat}{l:List Int}(h:OwnL w base 3 1 encN v l)(j:Nat)(hl:j<l.length):∃g c,v= .slice (some ⟨g,0,none⟩) l.length c/\g<w.heap.size/\w.cell? ⟨g,j,none⟩=some (.int .i64 (l[j]?.getD 0)):=by obtain⟨A,c,rfl,_,_,hx⟩:=X0i h;obtain⟨b,rfl,_,hb,_,hc⟩:=hx (by omega);have:=hc j hl;exact⟨b,c,rfl,hb,by rw[aB hl];exact this⟩
theorem Z4h{w:World}{v:Value}{base:Nat}{l:List ByteArray}(h:OwnL w base 9 1 encS v l)(j:Nat)(hl:j<l.length):∃g c,v= .slice (some ⟨g,0,none⟩) l.length c/\g<w.heap.size/\w.cell? ⟨g,j,none⟩=some (.string (l[j]?.getD ⟨#[]⟩)):=by obtain⟨A,c,rfl,_,_,hx⟩:=Z7i h;obtain⟨b,rfl,_,hb,_,hc⟩:=hx (by omega);have:=hc j hl;exact⟨b,c,rfl,hb,by rw[aB hl];exact this⟩
theorem Z5j{l:List ByteArray}{k:ByteArray}(hri:Z3l l)(hh:hasB l k=true):∃h:posB l k<l.length,l[posB l k]=k:=by
 obtain⟨j,hj,hje⟩:=List.mem_iff_getElem.1 ((Z6k _ _).1 hh);have e:posB l k=j:=X2f (l:=l) (k:=k) (p:=j) (by omega) (fun q hq hlt=>by rw[<-hje];exact Z1u hri hj hlt) (fun q hq hle=>by
  rw[<-hje];rcases Nat.eq_or_lt_of_le hle with e | e
  ·subst e;exact Z1h _
  ·exact Z3f (Z1u hri hq e))
 subst e;exact⟨hj,hje⟩
theorem Z4o{l:List ByteArray}{k:ByteArray}(hri:Z3l l):Z0h l k<=l.length:=by
 unfold Z0h;split
 ·rename_i h
  have:=(Z5j hri h).1;omega
 ·exact Y1i l k
theorem V8e{t p i:Nat}{F:Nat->Prop}{S:StoreD}(k:ByteArray)(w:World)(ht:Z0b w t p i)(hnt:¬F t)(h:PagerAt w p F S)(hi:i<16)(hroot:Z1w S i=0):
  cQ 77 #[tp t,.string k] w fun e w'=>e= .returned (.tuple #[.string ⟨#[]⟩,.int .i64 6])/\∃F',PagerAt w' p F' S/\Keeps F F' w w':=by
 have cR:=Z4d w ht hnt h hi;rw[hroot]at cR;clear ht hnt h hroot;go_enter Tryz.func77,Tryz.ntmps77;go_wp2_with (go_at_call 78;(with_reducible refine cR.mono ?_);clear cR;rintro e w1 ⟨rfl,F1,hp1,hk1⟩;have HP1:=hD hp1;have HK1:=hD hk1;clear hp1 hk1)
 go_ret2
 exact⟨rfl,F1,HP1.out,HK1.out⟩
theorem U1j{t p i:Nat}{F:Nat->Prop}{S:StoreD}(a d:Nat)(k:ByteArray)(n:NodeD)(w:World)(ht:Z0b w t p i)(hnt:¬F t)(h:PagerAt w p F S)(hi:i<16)(hroot:Z1w S i=a)(ha:0<a)(hpath:V9m S k d a n)(hd:d<1024):
  cQ 77 #[tp t,.string k] w fun e w'=>e= .returned (getN n k)/\∃F',PagerAt w' p F' S/\Keeps F F' w w':=by
 have cR:=Z4d w ht hnt h hi;rw[hroot]at cR;have ha0:decide ((a:Int)=0)=false:=aM;have ha1:((a:Int)==0)=false:=by simp;omega
 have HPA:=hD hpath;have HT:=hD ht;have HNT:=hD hnt;have HTL:=hD ht.lt;have HGN:Hid (getN n k=if hasB n.keys k=true then .tuple #[.string (n.vals[posB n.keys k]?.getD ⟨#[]⟩),.int .i64 0]else .tuple #[.string ⟨#[]⟩,.int .i64 6]):=rfl;clear ht hnt h hroot hpath hi;go_enter Tryz.func77,Tryz.ntmps77;go_wp2_with (go_at_call 78;(with_reducible refine cR.mono ?_);clear cR;rintro e w1 ⟨rfl,F1,hp1,hk1⟩;have HP1:=hD hp1;have HK1:=hD hk1;clear hp1 hk1)
 go_loopw [6,26] (fun x z wr=>∃(c j b:Nat),c+j=d/\x= .int .i64 b/\z= .int .i64 c/\Hid (V9m S k j b n)/\∃Fr,Hid (PagerAt wr p Fr S)/\Hid (Keeps F Fr w wr)) (fun _ z _=>d-(intOf z).toNat)
 case atStart=>exact⟨0,d,a,by omega,rfl,rfl,HPA,F1,HP1,HK1⟩
 case round=>
  obtain⟨c,j,b,hc,rfl,rfl,hsp,Fr,hpr,hkr⟩:=hrel;have q1:decide ((c:Int)<1024)=true:=aN;have hnr:¬Fr t:=hkr.out.out HTL.out HNT.out;have htr:Z0b wr t p i:=hkr.out.only.row HT.out HNT.out;cases j with
  | zero=>
    obtain⟨hn,hl,hri⟩:=hsp.out;have cL:=Z1m b n wr htr hpr.out hn;have HLE:Hid (n.keys.length<=255):=hn.ok.many;have HVL:Hid (n.vals.length=n.keys.length):=(hn.ok.leafs hl).1;have HPL:=hD (Y1i n.keys k);have HRI:=hD hri;have HKR:=hkr;rw[hl]at cL;have HPH:Hid (hasB n.keys k=true->posB n.keys k<n.keys.length):=fun hh=>(Z5j hri hh).1;clear hn hl hnr htr hpr hkr hsp hri;obtain⟨bh,hbh⟩:∃bh,hasB n.keys k=bh:=⟨_,rfl⟩;obtain⟨pos,hpo⟩:∃pos,posB n.keys k=pos:=⟨_,rfl⟩;have HBH:=hD hbh;have HPO:=hD hpo;cases bh
    ·go_wp2_with (first
      | (go_at_call 82;(with_reducible refine cL.mono ?_);clear cL;rintro e w2 ⟨kA,kn,kc,vA,vn,vc,cA,cn,cc,B,F2,rfl,hn1,hp1,hk1,hB,hF1,hBW⟩
         have cS:=Z4s k (w2.alloc (.cells #[.bool true,.slice kA kn kc,.slice vA vn vc,.slice cA cn cc] 166)) (hn1.keys.alloc _) HRI.out (by have:=HLE.out;omega);rw[HBH.out,HPO.out]at cS;have HP2:Hid (PagerAt (w2.alloc (.cells #[.bool true,.slice kA kn kc,.slice vA vn vc,.slice cA cn cc] 166)) p F2 S):=hp1.ext (Ext.alloc _ _);have HK2:Hid (Keeps F F2 w (w2.alloc (.cells #[.bool true,.slice kA kn kc,.slice vA vn vc,.slice cA cn cc] 166))):=Keeps.ext (Keeps.trans HKR.out hk1) (Ext.alloc _ _);clear hn1 hp1 hk1 hB hF1 hBW)
      | (go_at_call 138;(with_reducible refine cS.mono ?_);clear cS;rintro e w3 ⟨rfl,rfl⟩))
     go_ret2
     refine⟨?_,F2,HP2.out,HK2.out⟩;rw[HGN.out,if_neg (by rw[HBH.out];decide)];rfl
    ·have hpk:pos<n.vals.length:=by rw[HVL.out,<-HPO.out];exact HPH.out HBH.out
     have HPK:=hD hpk;clear hpk;go_wp2_with (first
      | (go_at_call 82;(with_reducible refine cL.mono ?_);clear cL;rintro e w2 ⟨kA,kn,kc,vA,vn,vc,cA,cn,cc,B,F2,rfl,hn1,hp1,hk1,hB,hF1,hBW⟩
         obtain⟨g,c9,hcv,hg,hgc⟩:=Z4h hn1.vals pos HPK.out;injection hcv with e1 e2 e3;subst e1;have q3:(pos:Int)<vn:=by have:=HPK.out;omega
         have q4:pos<vn:=by have:=HPK.out;omega
         obtain⟨x,hx⟩:∃x,n.vals[pos]?.getD ⟨#[]⟩=x:=⟨_,rfl⟩;rw[hx]at hgc;have HX:=hD hx;have d0:(w2.alloc (.cells #[.bool true,.slice kA kn kc,.slice (some ⟨g,0,none⟩) vn vc,.slice cA cn cc] 166)).cell? ⟨g,pos,none⟩=some (.string x):=((Ext.alloc w2 _).cell (p:=⟨g,pos,none⟩) hg).trans hgc;have cS:=Z4s k (w2.alloc (.cells #[.bool true,.slice kA kn kc,.slice (some ⟨g,0,none⟩) vn vc,.slice cA cn cc] 166)) (hn1.keys.alloc _) HRI.out (by have:=HLE.out;omega);rw[HBH.out,HPO.out]at cS;have HP2:Hid (PagerAt (w2.alloc (.cells #[.bool true,.slice kA kn kc,.slice (some ⟨g,0,none⟩) vn vc,.slice cA cn cc] 166)) p F2 S):=hp1.ext (Ext.alloc _ _);have HK2:Hid (Keeps F F2 w (w2.alloc (.cells #[.bool true,.slice kA kn kc,.slice (some ⟨g,0,none⟩) vn vc,.slice cA cn cc] 166))):=Keeps.ext (Keeps.trans HKR.out hk1) (Ext.alloc _ _);clear hn1 hp1 hk1 hB hF1 hBW hx hgc e2 e3)
      | (go_at_call 138;(with_reducible refine cS.mono ?_);clear cS;rintro e w3 ⟨rfl,rfl⟩))
     go_ret2
     refine⟨?_,F2,HP2.out,HK2.out⟩;rw[HGN.out,if_pos HBH.out,HPO.out,HX.out];rfl
  | succ j=>
    obtain⟨m,hm,hl,hri,hsn⟩:=hsp.out;have cL:=Z1m b m wr htr hpr.out hm;have hkl:=(hm.ok.inner hl).2;have hdn:Z0h m.keys k<m.kids.length:=by have:=Z4o (k:=k) hri;omega
    have hc0:(0:Int)<=m.kids[Z0h m.keys k]?.getD 0:=by rw[aB hdn];exact(hm.ok.kids _ (List.getElem_mem _)).1
    have HLE:Hid (m.keys.length<=255):=hm.ok.many;have HRI:=hD hri;have HKR:=hkr;have HSN:=hD hsn;have HDN:=hD hdn;have HLF:=hD hl;have HC:Hid ((((m.kids[Z0h m.keys k]?.getD 0).toNat:Nat):Int)=m.kids[Z0h m.keys k]?.getD 0):=Int.toNat_of_nonneg hc0;rw[hl]at cL;clear hm hl hnr htr hpr hkr hsp hsn hkl hri hdn hc0;obtain⟨q,hq⟩:∃q,Z0h m.keys k=q:=⟨_,rfl⟩;have HQ:=hD hq;rw[hq]at HSN HDN HC;obtain⟨x,hx⟩:∃x,(m.kids[q]?.getD 0).toNat=x:=⟨_,rfl⟩;rw[hx]at HSN HC;clear hq hx;go_upto_region 12 with (first
     | (go_at_call 82;(with_reducible refine cL.mono ?_);clear cL;rintro e w2 ⟨kA,kn,kc,vA,vn,vc,cA,cn,cc,B,F2,rfl,hn1,hp1,hk1,hB,hF1,hBW⟩
        have HN1:=hD hn1;have HP1:=hD hp1;have HK1:=hD hk1;have HBW:=hD hBW;clear hn1 hp1 hk1 hB hF1 hBW))
    obtain⟨g,c9,hcv,hg,hgc⟩:=Z6p HN1.out.kids q HDN.out;injection hcv with e1 e2 e3;subst e1;rw[<-HC.out]at hgc;have q4:q<cn:=by have:=HDN.out;omega
    have q5:(q:Int)<cn:=by omega
    have HGC:=hD hgc;have HG:=hD hg;clear hgc hg e2 e3;generalize hw3:w2.alloc _=w3;have hx3:Ext w2 w3:=hw3▸Ext.alloc _ _;have hr3:Row1 w3 w2.heap.size 166 [.bool false,.slice kA kn kc,.slice vA vn vc,.slice (some ⟨g,0,none⟩) cn cc]:=hw3▸Row1.made _ _ _;have HX3:=hD hx3;have cD:Hid (∀W,Ext w3 W->cQ 137 #[.agg #[.bool false,.slice kA kn kc,.slice vA vn vc,.slice (some ⟨g,0,none⟩) cn cc],.string k] W fun e w'=>e= .returned (.int .i64 q)/\Ext W w'):=fun W hW=>by have h9:=Y3a k W (HN1.out.ext (Ext.trans HX3.out hW)) HRI.out (by have:=HLE.out;omega);rw[HLF.out,HQ.out]at h9;exact h9
    have HKS:Hid (∀W,Ext w3 W->W.cell? ⟨w2.heap.size,0,none⟩=some (.bool false)/\W.cell? ⟨w2.heap.size,1,none⟩=some (.slice kA kn kc)/\W.cell? ⟨w2.heap.size,2,none⟩=some (.slice vA vn vc)/\W.cell? ⟨w2.heap.size,3,none⟩=some (.slice (some ⟨g,0,none⟩) cn cc)/\W.cell? ⟨g,q,none⟩=some (.int .i64 x)):=fun W hW=>by have h9:=hr3.ext hW hr3.lt;exact⟨h9.cell 0,h9.cell 1,h9.cell 2,h9.cell 3,((Ext.trans HX3.out hW).cell (p:=⟨g,q,none⟩) HG.out).trans HGC.out⟩
    clear hx3 hr3 hw3;refine wp_region_held_drew (S:=fun W=>W.cell? ⟨w2.heap.size,0,none⟩=some (.bool false)/\W.cell? ⟨w2.heap.size,1,none⟩=some (.slice kA kn kc)/\W.cell? ⟨w2.heap.size,2,none⟩=some (.slice vA vn vc)/\W.cell? ⟨w2.heap.size,3,none⟩=some (.slice (some ⟨g,0,none⟩) cn cc)/\W.cell? ⟨g,q,none⟩=some (.int .i64 x)) (by kernel_rfl) (HKS.out _ (by exact Xt)) (fun hHeld=> ?_);refine' tk 0 ?_;refine' tk 1 ?_;refine' tk 2 ?_;refine' tk 3 ?_;refine stp 4 (fun K hK=> ?_);go_simp
    (with_reducible refine(cD.out _ ?_).mono ?_)
    ·exact Xt
    rintro e w4 ⟨rfl,hb4⟩;have HB4:Hid (Ext w3 w4):=Ext.trans (by exact Xt) hb4;clear hb4
    (try dsimp only)
    (try go_simp)
    refine hK.out _ _ (HKS.out _ HB4.out) (fun hHeld=> ?_);clear hK K;refine pt ?_;refine' tk 5 ?_;refine' tk 6 ?_;refine' tk 7 ?_;refine wpAnyH_done (by kernel_rfl) ?_ _;go_wp2_with fail
    go_roundw
    case rel=>exact⟨c+1,j,x,by omega,by go_num,by go_num,HSN,F2,HP1.out.ext (Ext.trans HX3.out HB4.out),(Keeps.trans HKR.out HK1.out).ext (Ext.trans HX3.out HB4.out)⟩
    case measure=>simp[intOf];omega
end Go.Proofs.YtohaldfnmgcofaaGreat
