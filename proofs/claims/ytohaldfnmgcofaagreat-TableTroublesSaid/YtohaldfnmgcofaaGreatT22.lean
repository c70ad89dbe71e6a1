/- From, All: what is handed back; a tree that is asked whether it is empty. Conditions: a tree of one leaf, or none. -/
import Derived.RangeFuncBound
import Derived.Shelf.RegionOpen
import Derived.OwnWalkIn
import Derived.TacticsInMore
import Derived.LoopNIn
import Derived.LoopIn
import Derived.Test.YtohaldfnmgcofaaGreatT20
set_option maxRecDepth 100000
set_option maxHeartbeats 4000000
set_option linter.unusedSimpArgs false
set_option linter.unusedVariables false
namespace Go.Proofs.YtohaldfnmgcofaaGreat
section
open Go.RowKit Go.Shelf
attribute [local go_sem] Oper.semAt_some
def X3m(t:Nat)(key:ByteArray)(w:World)(e:Ending)(w':World):Prop:=
 ∃tb kb,e= .returned (.func (.func 106) #[] #[tp tb,tp kb])/\Ext w w'/\w.heap.size<=tb/\w.heap.size<=kb/\Row1 w' tb 36 [tp t]/\Row1 w' kb 9 [.string key]
theorem X5j(t:Nat)(key:ByteArray)(w:World):cQ 45 #[tp t,.string key] w (X3m t key w):=by
 have HR:Hid (X3m t key w (.returned (.func (.func 106) #[] #[tp w.heap.size,.pointer (some ⟨w.heap.size+1,0,none⟩)])) ((w.alloc (.cells #[tp t] 36)).alloc (.cells #[.string key] 9))):=
  ⟨w.heap.size,w.heap.size+1,rfl,Ext.trans (Ext.alloc _ _) (Ext.alloc _ _),aF _,by omega,Row1.alloc (Row1.made w _ [tp t]) _,Row1.made' (by simp) _ [.string key]⟩
 go_enter Tryz.func45,Tryz.ntmps45;go_wp2_with fail;go_ret;exact HR.out
theorem X3k(t:Nat)(w:World):cQ 53 #[tp t] w (X3m t ⟨#[]⟩ w):=by have cF:=X5j t ⟨#[]⟩ w;go_enter Tryz.func53,Tryz.ntmps53;go_wp2_with (go_at_call 45;(with_reducible refine cF.mono ?_);clear cF;rintro e w1 ⟨tb,kb,rfl,h1,h2,h3,h4,h5⟩;have HR:Hid (X3m t ⟨#[]⟩ w (.returned (.func (.func 106) #[] #[tp tb,tp kb])) w1):=⟨tb,kb,rfl,h1,h2,h3,h4,h5⟩;clear h1 h2 h3 h4 h5);go_ret;exact HR.out
theorem X4k{fn:Func}(h:fn.results= #[.cell 2 4])(tmps:Array Value)(w:World)(B:Nat)(b:Bool)(hB:tmps.getD 2 undef= tp B)(c0:w.cell? ⟨B,0,none⟩=some (.bool b)):
  (results fn tmps).run Tryz.prog w= .ok (.bool b) w:=by
 have hp':tmps[2]?.getD undef= tp B:=by simpa using hB
 simp only[results,h];simp[hp',asAddr,Sem.run_bind,Result.andThen]
 go_simp
theorem Y9z{p B D:Nat}{F F0 F1:Nat->Prop}{S:StoreD}{w w1 W W':World}(hk:Keeps (Un F0 (fun b=>b=B)) (Un F1 (fun b=>b=B)) w1 W)(hF:∀j,F0 j->F j)(hBw:w.heap.size<=B)(hx:Ext w w1)(hp:PagerAt W p F1 S)(hB:¬F1 B)(jH:¬F1 D)(hDl:w.heap.size<=D)(ho:Only (fun j=>j=B\/j=D) W W'):∃F',PagerAt W' p F' S/\Keeps F F' w W':=by
 refine⟨F1,hp.only ho (fun j q q'=>by rcases q' with q' | q'<;>(subst q';contradiction)),((Only.of hx).trans hk.only (fun j q=> ?_)).trans ho (fun j q=> .inr (by omega)),fun j q=> ?_⟩
 ·rcases q with q | q
  ·exact .inl (hF j q)
  ·exact .inr (by omega)
 ·rcases hk.new j (.inl q)with (r | r) | r
  ·exact .inl (hF j r)
  ·exact .inr (by omega)
  ·exact .inr (Nat.le_trans hx.size r)
end
section
open Go.RowKit
def delN(n:NodeD)(k:ByteArray):NodeD:= { n with keys:=n.keys.eraseIdx (posB n.keys k),vals:=n.vals.eraseIdx (posB n.keys k)}
theorem V4i{n:NodeD}(k:ByteArray)(h:NodeOk n)(hl:n.leaf=true):NodeOk (delN n k):=by
 have h1:=h.leafs hl;have h2:=h.many;refine⟨fun x hx=>h.keys x (List.mem_of_mem_eraseIdx hx),fun x hx=>h.vals x (List.mem_of_mem_eraseIdx hx),h.kids,?_,fun _=>⟨?_,h1.2⟩,fun q=> ?_⟩
 ·show(n.keys.eraseIdx _).length<=255;have:=List.length_eraseIdx_le n.keys (posB n.keys k);omega
 ·show(n.vals.eraseIdx _).length=(n.keys.eraseIdx _).length;rw[List.length_eraseIdx,List.length_eraseIdx,h1.1]
 ·have q':n.leaf=false:=q;rw[hl]at q';cases q'
theorem Z9d(l:List ByteArray)(i:Nat):Z0o (l.eraseIdx i)<=Z0o l:=by
 induction l generalizing i with
 | nil=>simp
 | cons a r ih=>
   cases i with
   | zero=>simp[Z0o]
   | succ i=>have:=ih i;simp only[List.eraseIdx_cons_succ,Z0o,List.map_cons,List.sum_cons]at *;omega
theorem X1e{S:StoreD}{a:Nat}{n:NodeD}(k:ByteArray)(h:PageN S a n)(hl:n.leaf=true):Z0n (delN n k)<=256:=by have h1:=Z7m n h.ok;have h2:=h.fits;have h3:=Z9d n.keys (posB n.keys k);have h4:=Z9d n.vals (posB n.keys k);unfold Z0n at h1;show 2+2*n.kids.length+Z0o (n.keys.eraseIdx _)+Z0o (n.vals.eraseIdx _)<=256;omega
theorem X9v{t p i:Nat}{F:Nat->Prop}{S:StoreD}(a d:Nat)(k:ByteArray)(n:NodeD)(w:World)(ht:Z0b w t p i)(hnt:¬F t)(h:PagerAt w p F S)(hp:PageN S a n)(hl:n.leaf=true)(hr:Z3l n.keys)(hd:0<d)(hhas:hasB n.keys k=true):
  cQ 79 #[tp t,.int .i64 a,.int .i64 d,.string k] w fun e w'=>e= .returned (.int .i64 0)/\∃F',PagerAt w' p F' (layP S a (delN n k))/\Keeps F F' w w':=by
 have cL:=Z1m a n w ht h hp;have hvl:n.vals.length=n.keys.length:=(hp.ok.leafs hl).1;have hpos:posB n.keys k<n.keys.length:=(Z5j hr hhas).1;have hlen:=hp.ok.many;have HT:=hD ht;have HNT:=hD hnt;have HG:=hD hp.given;have HRI:=hD hr;have HOK:=hD (V4i k hp.ok hl);have HSZ:=hD (X1e k hp hl);have hlt:=ht.lt;have T0:decide ((d:Int)=0)=false:=aM;have HPOS:=hD hpos;have HVL:=hD hvl;have HP:Hid (∀W kv vv cv G,NodeAs W G { n with keys:=n.keys.eraseIdx (posB n.keys k),vals:=n.vals.eraseIdx (posB n.keys k)} kv vv cv->NodeAs W G (delN n k) kv vv cv):=fun W kv vv cv G q=>q;have HPL:Hid ((delN n k).leaf=true):=hl;have HLF:=hD hl;have HLEN:=hD hlen;obtain⟨pos,hpo⟩:∃pos,posB n.keys k=pos:=⟨_,rfl⟩;rw[hpo]at HPOS HP;have HPO:=hD hpo;have hw1:IntKind.i64.wrap ((pos:Int)+1)=(pos:Int)+1:=by rw[IntKind.wrap_i64];have:=HPOS.out;omega
 have HHAS:=hD hhas;clear ht hnt h hp hr hhas hl hlen hpos hvl hpo;go_enter Tryz.func79,Tryz.ntmps79;go_wp2_with (first
  | (go_at_call 82;(with_reducible refine cL.mono ?_);clear cL;rintro e w1 ⟨kA,kn,kc,vA,vn,vc,cA,cn,cc,B,F1,rfl,hn1,hp1,hk1,hB,hF1,hBW⟩
     rw[HLF.out];have HR1:Hid (Z0b w1 t p i):=hD (hk1.only.row HT.out HNT.out);have HNT1:Hid (¬F1 t):=hk1.out hlt HNT.out;have HTB:Hid (¬B<=t):=by have h8:=aE hlt hB;intro e;omega
     have HBW:Hid (B<=w1.heap.size):=hD hBW;have HN1:=hD hn1;have HP1:=hD hp1;have HK1:=hD hk1;have HB:=hD hB;have HF1:=hD hF1;have cS:Hid (∀W,Ext w1 W->cQ 138 #[.slice kA kn kc,.string k] W fun e w'=>e= .returned (.tuple #[.int .i64 pos,.bool true])/\W=w'):=fun W hW=>by have q:=Z4s k W (hn1.keys.ext hW) HRI.out (by have:=HLEN.out;omega);rw[HPO.out,HHAS.out]at q;exact q
     clear hn1 hp1 hk1 hB hF1)
  | (go_at_call 138;(with_reducible refine(cS.out _ (Ext.alloc _ _)).mono ?_);clear cS;rintro e w2 ⟨rfl,hW⟩
     have hb2:Boxed w1 w2 B w1.heap.size n (.slice kA kn kc) (.slice vA vn vc) (.slice cA cn cc):=Boxed.made HN1.out HBW.out (by rw[HLF.out];exact hW);clear hW;have d0:w2.cell? ⟨w1.heap.size,0,none⟩=some (.bool true):=by rw[hb2.row.cell,HLF.out];rfl
     have d1:w2.cell? ⟨w1.heap.size,1,none⟩=some (.slice kA kn kc):=hb2.row.cell 1;have cI:=Y8t pos w2 hb2.own.keys HPOS.out (by have:=HLEN.out;omega);have HB2:=hD hb2;have HLT:=hD hb2.row.lt;clear hb2)
  | (go_at_call 139;(with_reducible refine cI.mono ?_);clear cI;rintro e w4 ⟨kv',rfl,h1,h2,h3⟩
     obtain⟨kA',kn',kc',rfl⟩:∃kA kn kc,kv'= .slice kA kn kc:=let ⟨A,c,q⟩:=OwnL.form h1;⟨A,_,c,q⟩;have hb4:=HB2.out.setK h1 (fun b q=> .inl (by rw[<-h2];exact q)) h3;have hr4:=HB2.out.rowK h3;have e1:w4.cell? ⟨w1.heap.size,1,none⟩=some (.slice kA kn kc):=hr4.cell 1;have e2:w4.cell? ⟨w1.heap.size,2,none⟩=some (.slice vA vn vc):=hr4.cell 2;have e3:w4.frozen? ⟨w1.heap.size,1,none⟩=false:=hr4.soft 1;have cJ:=Y8t pos (w4.setCell ⟨w1.heap.size,1,none⟩ (.slice kA' kn' kc')) hb4.own.vals (by show pos<n.vals.length;rw[HVL.out];exact HPOS.out) (by show n.vals.length<=1000000000;have:=HLEN.out;have:=HVL.out;omega);have HB4:=hD hb4;clear hb4 hr4 h1 h2 h3)
  | (go_at_call 139;(with_reducible refine cJ.mono ?_);clear cJ;rintro e w7 ⟨vv',rfl,h1,h2,h3⟩
     obtain⟨vA',vn',vc',rfl⟩:∃kA kn kc,vv'= .slice kA kn kc:=let ⟨A,c,q⟩:=OwnL.form h1;⟨A,_,c,q⟩;have hb7:=HB4.out.setV h1 (fun b q=> .inl (by rw[<-h2];exact q)) h3;have hr7:=HB4.out.rowV h3;have g0:w7.cell? ⟨w1.heap.size,0,none⟩=some (.bool true):=by rw[hr7.cell];show some (Value.bool n.leaf)=_;rw[HLF.out]
     have g1:w7.cell? ⟨w1.heap.size,1,none⟩=some (.slice kA' kn' kc'):=hr7.cell 1;have g2:w7.cell? ⟨w1.heap.size,2,none⟩=some (.slice vA vn vc):=hr7.cell 2;have g3:w7.cell? ⟨w1.heap.size,3,none⟩=some (.slice cA cn cc):=hr7.cell 3;have g4:w7.frozen? ⟨w1.heap.size,2,none⟩=false:=hr7.soft 2;have cC:=Y1p a (delN n k) (w7.setCell ⟨w1.heap.size,2,none⟩ (.slice vA' vn' vc')) (hb7.only.row HR1.out HTB.out) HNT1.out (HP1.out.only hb7.only (fun j q q'=>by have h8:=HF1.out _ q;omega)) HG.out HOK.out HSZ.out (HP.out _ _ _ _ _ hb7.own);rw[HPL.out]at cC;have HB7:=hD hb7.only;clear hb7 hr7 h1 h2 h3)
  | (go_at_call 92;(with_reducible refine cC.mono ?_);clear cC;rintro e w8 ⟨rfl,F4,hp4,hk4⟩;have HP4:=hD hp4;have HK4:=hD hk4;clear hp4 hk4))
 go_ret;exact⟨rfl,F4,HP4.out,Keeps.trans (HK1.out.side HB7.out (fun j q=>by have:=HB.out;omega)) HK4.out⟩
theorem Z4f{S:StoreD}{a:Nat}{n:NodeD}(hg:Z0s S a)(hn:NodeOk n)(hs:Z0n n<=256):PageN (layP S a n) a n:=
 ⟨⟨hg.1,hg.2.1,by rw[layP,Z9n (by have:=hg.1;omega)];exact hg.2.2⟩,hn,by rw[Z7m n hn];exact hs,by rw[layP,Z2d,if_pos rfl]⟩
theorem V2a(x:ByteArray):ltB x ⟨#[]⟩=false:=by
 cases h:ltB x ⟨#[]⟩with
 | false=>rfl
 | true=>exact absurd ((Z6i x _).1 h) (List.not_lt_nil _)
theorem Z3q{a b c:ByteArray}(h:ltB a b=true)(k:ltB c b=false):ltB a c=true:=by
 cases e:ltB b c with
 | true=>exact Z1q h e
 | false=>rw[<-Y8h e k];exact h
theorem Y4l{a b c:ByteArray}(h:ltB b a=false)(k:ltB b c=true):ltB a c=true:=by
 cases e:ltB a b with
 | true=>exact Z1q e k
 | false=>rw[Y8h e h];exact k
theorem le_of_lt{a b:ByteArray}(h:ltB a b=true):ltB b a=false:=Z3f h
theorem Z2i{a b:ByteArray}(h:a≠b):eqB a b=false:=by
 cases e:eqB a b with
 | false=>rfl
 | true=>exact absurd ((Z7u a b).1 e) h
theorem Z2l{a b:ByteArray}(h:ltB a b=true):a≠b:=fun e=>by subst e;rw[Z1h]at h;cases h
abbrev Z6w(l:List KV):Prop:=l.Pairwise (fun a b=>ltB a.1 b.1=true)
def Z6u(l:List KV)(k v:ByteArray):List KV:=l.filter (fun x=>ltB x.1 k)++(k,v)::l.filter (fun x=>ltB k x.1)
def Z7w(l:List KV)(k:ByteArray):List KV:=l.filter (fun x=> !eqB x.1 k)
def Z1e(l:List KV)(k:ByteArray):List KV:=l.filter (fun x=> !ltB x.1 k)
def Y1v(l:List KV)(k:ByteArray):Option ByteArray:=(l.find? (fun x=>eqB x.1 k)).map (·.2)
theorem Z2m{α:Type}{p:α->Bool}{l:List α}(h:∀x∈l,p x=true):l.filter p=l:=List.filter_eq_self.2 h
theorem Z7t{α:Type}{p:α->Bool}{l:List α}(h:∀x∈l,p x=false):l.filter p= []:=List.filter_eq_nil_iff.2 (fun x hx e=>by rw[h x hx]at e;cases e)
theorem X0x{A B C:List KV}{k v:ByteArray}(hA:∀x∈A,ltB x.1 k=true)(hC:∀x∈C,ltB k x.1=true):Z6u (A++B++C) k v=A++Z6u B k v++C:=by unfold Z6u;rw[List.filter_append,List.filter_append,List.filter_append,List.filter_append,Z2m hA,Z7t (l:=C) (fun x hx=>le_of_lt (hC x hx)),Z7t (l:=A) (fun x hx=>le_of_lt (hA x hx)),Z2m hC];simp
theorem X1f{A B C:List KV}{k:ByteArray}(hA:∀x∈A,ltB x.1 k=true)(hC:∀x∈C,ltB k x.1=true):Z7w (A++B++C) k=A++Z7w B k++C:=by unfold Z7w;rw[List.filter_append,List.filter_append,Z2m (l:=A) (fun x hx=>by rw[Z2i (Z2l (hA x hx))];rfl),Z2m (l:=C) (fun x hx=>by rw[Z2i (Z2l (hC x hx)).symm];rfl)]
theorem V3l{A B C:List KV}{k:ByteArray}(hA:∀x∈A,ltB x.1 k=true)(hC:∀x∈C,ltB k x.1=true):Y1v (A++B++C) k=Y1v B k:=by unfold Y1v;rw[List.find?_append,List.find?_append,List.find?_eq_none.2 (fun x hx=>by rw[Z2i (Z2l (hA x hx))];decide:∀x∈A,¬eqB x.1 k=true),List.find?_eq_none.2 (fun x hx=>by rw[Z2i (Z2l (hC x hx)).symm];decide:∀x∈C,¬eqB x.1 k=true)];simp
theorem V3u{l:List KV}(h:Z6w l)(k:ByteArray):l.filter (fun x=>ltB x.1 k)=l.take (l.countP (fun x=>ltB x.1 k)):=by
 induction l with
 | nil=>rfl
 | cons a r ih=>
   obtain⟨h1,h2⟩:=List.pairwise_cons.1 h;cases e:ltB a.1 k with
   | true=>rw[List.filter_cons,List.countP_cons,if_pos e,if_pos e,List.take_succ_cons,ih h2]
   | false=>
     have hn:∀x∈r,ltB x.1 k=false:=fun x hx=>by
      cases q:ltB x.1 k with
      | false=>rfl
      | true=>rw[Z1q (h1 x hx) q]at e;cases e
     rw[Z7t (fun x hx=> ?_),List.countP_eq_zero.2 (fun x hx=> ?_)]
     ·rfl
     ·rcases List.mem_cons.1 hx with rfl | hx
      ·rw[e];decide
      ·rw[hn x hx];decide
     ·rcases List.mem_cons.1 hx with rfl | hx
      ·exact e
      ·exact hn x hx
theorem V3v{l:List KV}(h:Z6w l)(k:ByteArray):l.filter (fun x=> !ltB x.1 k)=l.drop (l.countP (fun x=>ltB x.1 k)):=by
 induction l with
 | nil=>rfl
 | cons a r ih=>
   obtain⟨h1,h2⟩:=List.pairwise_cons.1 h;cases e:ltB a.1 k with
   | true=>rw[List.filter_cons,List.countP_cons,if_pos e,if_neg (by rw[e];decide),List.drop_succ_cons,ih h2]
   | false=>
     have hn:∀x∈r,ltB x.1 k=false:=fun x hx=>by
      cases q:ltB x.1 k with
      | false=>rfl
      | true=>rw[Z1q (h1 x hx) q]at e;cases e
     rw[Z2m (fun x hx=> ?_),List.countP_eq_zero.2 (fun x hx=> ?_)]
     ·rfl
     ·rcases List.mem_cons.1 hx with rfl | hx
      ·rw[e];decide
      ·rw[hn x hx];decide
     ·rcases List.mem_cons.1 hx with rfl | hx
      ·rw[e];rfl
      ·rw[hn x hx];rfl
theorem Y6w{ks vs:List ByteArray}(hl:vs.length=ks.length)(k:ByteArray):(ks.zip vs).countP (fun x=>ltB x.1 k)=posB ks k:=by
 unfold posB
 conv=>rhs;rw[<-List.map_fst_zip (l₁:=ks) (l₂:=vs) (by omega)]
 rw[List.countP_map];rfl
theorem Y2r{ks vs:List ByteArray}(hl:vs.length=ks.length)(h:Z3l ks):Z6w (ks.zip vs):=by
 have h1:((ks.zip vs).map (·.1)).Pairwise (fun a b=>ltB a b=true):=by rw[List.map_fst_zip (by omega)];exact h
 exact(List.pairwise_map.1 h1)
theorem X3o{ks vs:List ByteArray}(hl:vs.length=ks.length)(h:Z3l ks)(k:ByteArray):(ks.zip vs).filter (fun x=>ltB x.1 k)=(ks.zip vs).take (posB ks k):=by rw[V3u (Y2r hl h),Y6w hl]
theorem V9n{ks vs:List ByteArray}(hl:vs.length=ks.length)(h:Z3l ks)(k:ByteArray):(ks.zip vs).filter (fun x=> !ltB x.1 k)=(ks.zip vs).drop (posB ks k):=by rw[V3v (Y2r hl h),Y6w hl]
theorem X3p{ks vs:List ByteArray}(hl:vs.length=ks.length)(h:Z3l ks)(k:ByteArray):(ks.zip vs).filter (fun x=>ltB k x.1)=(ks.zip vs).drop (posB ks k+if hasB ks k=true then 1 else 0):=by
 have hs:(ks.zip vs).filter (fun x=>ltB k x.1)=((ks.zip vs).filter (fun x=> !ltB x.1 k)).filter (fun x=>ltB k x.1):=by
  rw[List.filter_filter]
  congr 1
  funext x
  cases e:ltB k x.1 with
  | false=>rfl
  | true=>rw[le_of_lt e];rfl
 rw[hs,V9n hl h,<-List.drop_drop];have hr:=Y2r hl h;have hp:=Y1i ks k;cases hh:hasB ks k with
 | true=>
   obtain⟨hlt,he⟩:=Z5j h hh;have hz:posB ks k<(ks.zip vs).length:=by rw[List.length_zip];omega
   rw[List.drop_eq_getElem_cons hz,List.filter_cons,if_neg (by rw[List.getElem_zip,he,Z1h];decide),if_pos rfl];rw[show∀(a:KV) l,(a::l).drop 1=l from fun _ _=>rfl];refine Z2m (fun x hx=> ?_);obtain⟨j,hj,rfl⟩:=List.mem_iff_getElem.1 hx;rw[List.getElem_drop];have h9:=List.pairwise_iff_getElem.1 hr (posB ks k) (posB ks k+1+j) hz (by rw[aJ]at hj;omega) (by omega);rw[List.getElem_zip (i:=posB ks k)]at h9;simp only[he]at h9;exact h9
 | false=>
   rw[if_neg (by decide),List.drop_zero,Z2m];intro x hx;rw[<-V9n hl h]at hx;obtain⟨h1,h2⟩:=List.mem_filter.1 hx;have h3:ltB x.1 k=false:=by simpa using h2
   cases e:ltB k x.1 with
   | true=>rfl
   | false=>
     have h4:k∈ks:=by rw[<-Y8h h3 e];exact(List.of_mem_zip h1).1
     rw[(Z6k ks k).2 h4]at hh;cases hh
theorem Y3m(ks vs:List ByteArray)(i:Nat):(ks.zip vs).take i=(ks.take i).zip (vs.take i):=by unfold List.zip;exact List.take_zipWith
theorem Y4v(ks vs:List ByteArray)(i:Nat):(ks.zip vs).drop i=(ks.drop i).zip (vs.drop i):=by unfold List.zip;exact List.drop_zipWith
theorem V3a{ks vs:List ByteArray}(hl:vs.length=ks.length)(h:Z3l ks)(k v:ByteArray):(putN ⟨true,ks,vs,[]⟩ k v).keys.zip (putN ⟨true,ks,vs,[]⟩ k v).vals=Z6u (ks.zip vs) k v:=by
 unfold Z6u;rw[X3o hl h,X3p hl h];have hp:=Y1i ks k;cases hh:hasB ks k with
 | true=>
   obtain⟨hlt,he⟩:=Z5j h hh;unfold putN;rw[if_pos hh,if_pos rfl];show ks.zip (vs.set (posB ks k) v)=_;apply List.ext_getElem
   ·simp only[List.length_zip,aA,aD,List.length_cons,aJ,List.length_set];omega
   ·intro i h1 h2;simp only[List.getElem_zip,List.getElem_set,List.getElem_append,List.getElem_cons,List.getElem_take,List.getElem_drop,aD,List.length_zip];rw[List.length_zip,List.length_set]at h1;by_cases e1:i<posB ks k
    ·rw[dif_pos (by omega),if_neg (by omega)]
    ·rw[dif_neg (by omega)];by_cases e2:i=posB ks k
     ·subst e2;rw[if_pos rfl,dif_pos (by omega),he]
     ·rw[if_neg (by omega),dif_neg (by omega)]
      congr 1<;>(congr 1;omega)
 | false=>
   unfold putN;rw[if_neg (by rw[hh];decide),if_neg (by decide)];show(insL ks (posB ks k) k).zip (insL vs (posB ks k) v)=_;unfold insL;rw[List.zip_append (by rw[aD,aD];omega),List.zip_cons_cons,Y3m,Y4v,Nat.add_zero]
theorem V4k{ks vs:List ByteArray}(hl:vs.length=ks.length)(h:Z3l ks)(k:ByteArray)(hh:hasB ks k=true):(delN ⟨true,ks,vs,[]⟩ k).keys.zip (delN ⟨true,ks,vs,[]⟩ k).vals=Z7w (ks.zip vs) k:=by
 obtain⟨hlt,he⟩:=Z5j h hh;have h1:Z7w (ks.zip vs) k=(ks.zip vs).filter (fun x=>ltB x.1 k)++(ks.zip vs).filter (fun x=>ltB k x.1):=by
  have hz:posB ks k<(ks.zip vs).length:=by rw[List.length_zip];omega
  have e1:=X3o hl h k;have e2:=X3p hl h k;rw[hh,if_pos rfl]at e2;have hs:(ks.zip vs)=(ks.zip vs).take (posB ks k)++ [(ks.zip vs)[posB ks k]]++(ks.zip vs).drop (posB ks k+1):=by rw[aG,List.singleton_append,List.getElem_cons_drop,List.take_append_drop]
  conv=>lhs;rw[hs]
  rw[<-e1,<-e2,X1f (fun x hx=>(List.mem_filter.1 hx).2) (fun x hx=>(List.mem_filter.1 hx).2)];have e3:Z7w [(ks.zip vs)[posB ks k]] k= []:=Z7t (fun x hx=>by
   obtain rfl:x=(ks.zip vs)[posB ks k]:=by simpa using hx
   rw[List.getElem_zip];show(!eqB ks[posB ks k] k)=false;rw[he,(Z7u k k).2 rfl];rfl)
  rw[e3,List.append_nil]
 rw[h1,X3o hl h,X3p hl h,hh,if_pos rfl];unfold delN;show(ks.eraseIdx (posB ks k)).zip (vs.eraseIdx (posB ks k))=_;rw[List.eraseIdx_eq_take_drop_succ,List.eraseIdx_eq_take_drop_succ,List.zip_append (by rw[aD,aD];omega),Y3m,Y4v]
structure Stp (P:Nat->Prop) (F G:List Nat) (S S':StoreD):Prop where
 same:S'= { S with dirty:=S'.dirty}
 full:FullV S'
 root:∀i,Z1w S' i=Z1w S i
 view:∀b,2<=b->¬P b->b∉F->Z1a S' b=Z1a S b
 used:∀b,Z0y S' b=true↔(Z0y S b=true\/b∈F)/\b∉G
 dirt:∀b:Nat,2<=b->S'.dirty (b:Int)≠none->S.dirty (b:Int)≠none\/P b\/b∈F
section
variable {P P' Q:Nat->Prop} {F F' G G':List Nat} {S S' S'':StoreD}
theorem Stp.head(h:Stp P F G S S'):S'.head=S.head:=by rw[h.same]
theorem Stp.refl(h:FullV S):Stp P [] [] S S:=⟨rfl,h,fun _=>rfl,fun _ _ _ _=>rfl,fun b=>by simp,fun b _ h=> .inl h⟩
theorem Stp.mono(h:Stp P F G S S')(hP:∀b,P b->P' b):Stp P' F G S S':=⟨h.same,h.full,h.root,fun b h1 h2 h3=>h.view b h1 (fun q=>h2 (hP b q)) h3,h.used,fun b h1 h2=>(h.dirt b h1 h2).imp_right (Or.imp_left (hP b))⟩
theorem Stp.trans(h:Stp P F G S S')(k:Stp P' F' G' S' S'')(hG:∀b,b∈F'->b∉G)(hP:∀b,P' b->P b\/b∈F\/Q b):Stp (fun b=>P b\/Q b) (F++F') (G++G') S S'':=by
 refine⟨by rw[k.same,h.same],k.full,fun i=>(k.root i).trans (h.root i),fun b h1 h2 h3=> ?_,fun b=> ?_,fun b h1 h2=> ?_⟩
 ·rw[List.mem_append,not_or]at h3;refine(k.view b h1 (fun q=> ?_) h3.2).trans (h.view b h1 (fun q=>h2 (.inl q)) h3.1);rcases hP b q with q | q | q
  ·exact h2 (.inl q)
  ·exact h3.1 q
  ·exact h2 (.inr q)
 ·rw[k.used,h.used,List.mem_append,List.mem_append];have:=hG b;constructor
  ·rintro⟨⟨q1,q2⟩ | q1,q3⟩
   ·exact⟨q1.imp_right Or.inl,fun q=>q.elim q2 q3⟩
   ·exact⟨.inr (.inr q1),fun q=>q.elim (this q1) q3⟩
  ·rintro⟨q1,q2⟩;rw[not_or]at q2;rcases q1 with q1 | q1 | q1
   ·exact⟨.inl ⟨.inl q1,q2.1⟩,q2.2⟩
   ·exact⟨.inl ⟨.inr q1,q2.1⟩,q2.2⟩
   ·exact⟨.inr q1,q2.2⟩
 ·rw[List.mem_append];rcases k.dirt b h1 h2 with q | q | q
  ·rcases h.dirt b h1 q with r | r | r
   ·exact .inl r
   ·exact .inr (.inl (.inl r))
   ·exact .inr (.inr (.inl r))
  ·rcases hP b q with q | q | q
   ·exact .inr (.inl (.inl q))
   ·exact .inr (.inr (.inl q))
   ·exact .inr (.inl (.inr q))
  ·exact .inr (.inr (.inr q))
theorem Stp.given(h:Stp P F G S S'){b:Nat}(hb:Z0s S b)(hG:b∉G):Z0s S' b:=⟨hb.1,by rw[h.head];exact hb.2.1,(h.used b).2 ⟨.inl hb.2.2,hG⟩⟩
theorem Stp.givenF(h:Stp P F G S S'){b:Nat}(h2:2<=b)(hp:b<S.head.pages)(hF:b∈F)(hG:b∉G):Z0s S' b:=⟨h2,by rw[h.head];exact hp,(h.used b).2 ⟨.inr hF,hG⟩⟩
theorem PageN.stp{a:Nat}{n:NodeD}(hp:PageN S a n)(h:Stp P F G S S')(h1:¬P a)(h2:a∉F)(h3:a∉G):PageN S' a n:=
 ⟨h.given hp.given h3,hp.ok,hp.fits,by rw[h.view a hp.given.1 h1 h2];exact hp.view⟩
end
theorem Y2w{S:StoreD}(h:FullV S)(n:Nat){s:ByteArray}(hs:s.size<=256):FullV (putP S n s):=fun i=>by
 rw[Z2d];split
 ·exact Z7h s hs
 ·exact h i
theorem Z5n{S:StoreD}{a:Nat}{n:NodeD}(h:FullV S)(ha:2<=a)(hn:NodeOk n)(hs:Z0n n<=256):Stp (fun b=>b=a) [] [] S (layP S a n):=by
 have hz:(bts (Z2g n)).size<=256:=by rw[Z0e,Z7m n hn];exact hs
 refine⟨rfl,Y2w h a hz,fun i=>Y7w (by omega) _ _,fun b h1 h2 _=> ?_,fun b=> ?_,fun b h1 h2=> ?_⟩
 ·unfold layP;rw[Z2d,if_neg h2]
 ·unfold layP;rw[Z9n (by omega)];simp
 ·by_cases e:b=a
  ·exact .inr (.inl e)
  ·left;intro q;apply h2;show updI S.dirty a _ b=none;unfold updI;rw[if_neg (by omega)];exact q
theorem V0b{S:StoreD}(h:FullV S){n:Nat}(hn:n<2048)(b:Bool):(useP S n b)= { S with dirty:=(useP S n b).dirty}/\FullV (useP S n b)/\∀i,1<=i->(useP S n b).dirty i=S.dirty i:=by refine⟨rfl,Y2w h 0 (by rw[Z9p h];decide),fun i hi=> ?_⟩;show updI S.dirty 0 _ i=_;unfold updI;rw[if_neg (by omega)]
theorem Y2q{S:StoreD}(h:FullV S){n:Nat}(hn:n<2048):Stp (fun _=>False) [] [n] S (useP S n false):=by
 obtain⟨h1,h2,h3⟩:=V0b h hn false;refine⟨h1,h2,fun i=>X4d n false i,fun b q1 _ _=>X3s h n false b (by omega),fun b=> ?_,fun b q1 q2=> .inl (by rw[<-h3 b (by omega)];exact q2)⟩;rw[X3u h hn];by_cases e:b=n
 ·simp[e]
 ·simp[e]
theorem Z7b{S:StoreD}(h:FullV S){n:Nat}(h0:2<=n)(hn:n<2048):Stp (fun _=>False) [n] [] S (Z1f S n):=by
 obtain⟨h1,h2,h3⟩:=V0b h hn true;refine⟨rfl,Y2w h2 n (by decide),fun i=>X6y (by omega) i,fun b q1 _ q3=> ?_,fun b=> ?_,fun b q1 q2=> ?_⟩
 ·rw[X6j h n b (by omega),if_neg (fun e=>q3 (by simp[e]))]
 ·rw[Y5x h (by omega) hn];by_cases e:b=n
  ·simp[e]
  ·simp[e]
 ·by_cases e:b=n
  ·exact .inr (.inr (by simp[e]))
  ·left;rw[<-h3 b (by omega)];intro q;apply q2;show updI (useP S n true).dirty n _ b=none;unfold updI;rw[if_neg (by omega)];exact q
theorem X6s{F:List Nat}{S S':StoreD}(hu:∀b,Z0y S' b=true↔(Z0y S b=true\/b∈F)/\b∉([]:List Nat))(n:Nat)(hF:F.Nodup)(hf:∀b∈F,Z0y S b=false/\b<n):Z1y S' n=Z1y S n+F.length:=by
 unfold Z1y;rw[<-aA];apply List.Perm.length_eq;rw[List.perm_ext_iff_of_nodup]
 ·intro b;rw[List.mem_filter,List.mem_append,List.mem_filter,hu,List.mem_range];constructor
  ·rintro⟨h1,h2 | h2,_⟩
   ·exact .inl ⟨h1,h2⟩
   ·exact .inr h2
  ·rintro(⟨h1,h2⟩ | h2)
   ·exact⟨h1,.inl h2,by simp⟩
   ·exact⟨(hf b h2).2,.inr h2,by simp⟩
 ·exact List.nodup_range.filter _
 ·rw[List.nodup_append];refine⟨List.nodup_range.filter _,hF,fun a ha b hb e=> ?_⟩;subst e;rw[List.mem_filter]at ha;rw[(hf a hb).1]at ha;exact absurd ha.2 (by decide)
theorem Y9v{F:List Nat}{S S':StoreD}(hu:∀b,Z0y S' b=true↔(Z0y S b=true\/b∈F)/\b∉([]:List Nat))(hh:S'.head=S.head)(hF:F.Nodup)(hf:∀b∈F,Z0y S b=false/\b<S.head.pages):Z0z S'+F.length=Z0z S:=by have h1:=X6s hu S.head.pages hF hf;have h2:=Y3l S' S.head.pages;unfold Z0z;rw[hh,h1];rw[h1]at h2;omega
theorem X4f{P:Nat->Prop}{F:List Nat}{S S':StoreD}(h:Stp P F [] S S')(hF:F.Nodup)(hf:∀b∈F,Z0y S b=false/\b<S.head.pages):Z0z S'+F.length=Z0z S:=Y9v h.used h.head hF hf
structure Fm (S:StoreD):Prop where
 full:FullV S
 u0:Z0y S 0=true
 u1:Z0y S 1=true
 most:S.head.pages<=1024
theorem Fm.stp{P:Nat->Prop}{F G:List Nat}{S S':StoreD}(h:Fm S)(k:Stp P F G S S')(hG:∀b∈G,2<=b):Fm S':=
 ⟨k.full,(k.used 0).2 ⟨.inl h.u0,fun q=>by have:=hG _ q;omega⟩,(k.used 1).2 ⟨.inl h.u1,fun q=>by have:=hG _ q;omega⟩,by rw[k.head];exact h.most⟩
theorem Y8i{S:StoreD}(h:Fm S)(hr:0<Z0z S):∃a,lowS S=some a:=by
 cases e:lowS S with
 | some a=>exact⟨a,rfl⟩
 | none=>
   have h1:∀b,b<S.head.pages->Z0y S b=true:=fun b hb=>by
    by_cases e0:b=0
    ·subst e0;exact h.u0
    ·by_cases e1:b=1
     ·subst e1;exact h.u1
     ·exact V2b e b (by omega) hb
   have h2:Z1y S S.head.pages=S.head.pages:=by unfold Z1y;rw[List.filter_eq_self.2 (fun b hb=>h1 b (List.mem_range.1 hb)),List.length_range]
   unfold Z0z at hr;omega
structure LeafT where
 at_:Nat
 keys:List ByteArray
 vals:List ByteArray
structure InT (α:Type) where
 at_:Nat
 keys:List ByteArray
 kids:List α
def TT:Nat->Type
 | 0=>LeafT
 | d+1=>InT (TT d)
def atT:(d:Nat)->TT d->Nat
 | 0,t=>LeafT.at_ t
 | _+1,t=>InT.at_ t
def Z0c:(d:Nat)->TT d->NodeD
 | 0,t=>⟨true,LeafT.keys t,LeafT.vals t,[]⟩
 | d+1,t=>⟨false,InT.keys t,[],(InT.kids t).map fun c=>(atT d c:Int)⟩
def onT(S:StoreD):(d:Nat)->TT d->Prop
 | 0,t=>PageN S (LeafT.at_ t) (Z0c 0 t)
 | d+1,t=>PageN S (InT.at_ t) (Z0c (d+1) t)/\∀c∈InT.kids t,onT S d c
def Z0a:(d:Nat)->TT d->List Nat
 | 0,t=> [LeafT.at_ t]
 | d+1,t=>InT.at_ t::(InT.kids t).flatMap (Z0a d)
def Z0f:(d:Nat)->TT d->List KV
 | 0,t=>(LeafT.keys t).zip (LeafT.vals t)
 | d+1,t=>(InT.kids t).flatMap (Z0f d)
def allT:(d:Nat)->TT d->List ByteArray
 | 0,t=>LeafT.keys t
 | d+1,t=>InT.keys t++(InT.kids t).flatMap (allT d)
def sepT:(d:Nat)->TT d->List ByteArray
 | 0,_=> []
 | d+1,t=>InT.keys t++(InT.kids t).flatMap (sepT d)
def Z2o(k:ByteArray):Prop:=0<k.size/\k.size<=32
def SepT{α:Type}(f:α->List ByteArray)(ks:List ByteArray)(ts:List α):Prop:=
 ∀j (hj:j<ts.length),∀x∈f ts[j],(∀i (hi:i<ks.length),i<j->ltB x ks[i]=false)/\(∀i (hi:i<ks.length),j<=i->ltB x ks[i]=true)
def StrT{α:Type}(f:α->List ByteArray)(ks:List ByteArray)(ts:List α):Prop:=
 ∀(j:Nat) (c:α),ts[j]? =some c->∀x∈f c,∀(i:Nat) (s:ByteArray),ks[i]? =some s->i<j->ltB s x=true
def okT:(d:Nat)->TT d->Prop
 | 0,t=>Z3l (LeafT.keys t)/\(LeafT.vals t).length=(LeafT.keys t).length/\(∀k∈LeafT.keys t,Z2o k)/\∀v∈LeafT.vals t,v.size<=80
 | d+1,t=>Z3l (InT.keys t)/\(InT.kids t).length=(InT.keys t).length+1/\(∀k∈InT.keys t,Z2o k)/\(∀c∈InT.kids t,okT d c)/\SepT (allT d) (InT.keys t) (InT.kids t)/\StrT (sepT d) (InT.keys t) (InT.kids t)
theorem Z0r:∀(d:Nat) (t:TT d),atT d t∈Z0a d t
 | 0,_=>by simp[atT,Z0a]
 | _+1,_=>by simp[atT,Z0a]
theorem Z3z{S:StoreD}:∀(d:Nat) (t:TT d),onT S d t->PageN S (atT d t) (Z0c d t)
 | 0,_,h=>h
 | _+1,_,h=>h.1
theorem Z0l{S:StoreD}:∀(d:Nat) (t:TT d),onT S d t->∀b∈Z0a d t,Z0s S b
 | 0,t,h,b,hb=>by
   simp only[Z0a,List.mem_singleton]at hb;subst hb;exact PageN.given h
 | d+1,t,h,b,hb=>by
   simp only[Z0a,List.mem_cons,List.mem_flatMap]at hb;rcases hb with rfl | ⟨c,hc,hb⟩
   ·exact PageN.given h.1
   ·exact Z0l d c (h.2 c hc) b hb
theorem Z7l{P:Nat->Prop}{F G:List Nat}{S S':StoreD}(h:Stp P F G S S'):∀(d:Nat) (t:TT d),onT S d t->(∀b∈Z0a d t,¬P b/\b∉F/\b∉G)->onT S' d t
 | 0,t,ho,hb=>by
   have:=hb (LeafT.at_ t) (by simp[Z0a]);exact PageN.stp ho h this.1 this.2.1 this.2.2
 | d+1,t,ho,hb=>by have:=hb (InT.at_ t) (by simp[Z0a]);refine⟨PageN.stp ho.1 h this.1 this.2.1 this.2.2,fun c hc=>Z7l h d c (ho.2 c hc) (fun b q=>hb b ?_)⟩;simp only[Z0a,List.mem_cons,List.mem_flatMap];exact .inr ⟨c,hc,q⟩
theorem Y8z:∀(d:Nat) (t:TT d),okT d t->∀k∈allT d t,Z2o k
 | 0,_,h,k,hk=>h.2.2.1 k hk
 | d+1,t,h,k,hk=>by
   simp only[allT,List.mem_append,List.mem_flatMap]at hk;rcases hk with hk | ⟨c,hc,hk⟩
   ·exact h.2.2.1 k hk
   ·exact Y8z d c (h.2.2.2.1 c hc) k hk
theorem Z5a:∀(d:Nat) (t:TT d),∀x∈Z0f d t,x.1∈allT d t
 | 0,t,x,hx=>(List.of_mem_zip (show (x.1,x.2)∈(LeafT.keys t).zip (LeafT.vals t)from hx)).1
 | d+1,t,x,hx=>by simp only[Z0f,List.mem_flatMap]at hx;obtain⟨c,hc,hx⟩:=hx;simp only[allT,List.mem_append,List.mem_flatMap];exact .inr ⟨c,hc,Z5a d c x hx⟩
theorem X0t:∀(d:Nat) (t:TT d),okT d t->∀x∈Z0f d t,x.2.size<=80
 | 0,t,h,x,hx=>h.2.2.2 _ (List.of_mem_zip (show (x.1,x.2)∈(LeafT.keys t).zip (LeafT.vals t)from hx)).2
 | d+1,t,h,x,hx=>by simp only[Z0f,List.mem_flatMap]at hx;obtain⟨c,hc,hx⟩:=hx;exact X0t d c (h.2.2.2.1 c hc) x hx
theorem U2f{α:Type}{f:α->List ByteArray}{ks:List ByteArray}{ts:List α}(h:SepT f ks ts)(hl:ts.length=ks.length+1){i j:Nat}(hj:j<ts.length)(hij:i<j){x y:ByteArray}(hx:x∈f (ts[i]'(by omega)))(hy:y∈f ts[j]):ltB x y=true:=
 Z3q ((h i (by omega) x hx).2 i (by omega) (aF _)) ((h j hj y hy).1 i (by omega) hij)
theorem Z4u:∀(d:Nat) (t:TT d),okT d t->Z6w (Z0f d t)
 | 0,t,h=>Y2r h.2.1 h.1
 | d+1,t,h=>by unfold Z6w;simp only[Z0f];rw[List.pairwise_flatMap];refine⟨fun c hc=>Z4u d c (h.2.2.2.1 c hc),List.pairwise_iff_getElem.2 (fun i j hi hj hij x hx y hy=> ?_)⟩;exact U2f h.2.2.2.2.1 h.2.1 hj hij (Z5a d _ x hx) (Z5a d _ y hy)
theorem X5o{ks:List ByteArray}(h:Z3l ks)(k:ByteArray){i:Nat}(hi:i<ks.length)(hlt:i<Z0h ks k):ltB k ks[i]=false:=by
 unfold Z0h at hlt;cases hh:hasB ks k with
 | true=>
   rw[hh,if_pos rfl]at hlt;obtain⟨hp,he⟩:=Z5j h hh;rcases Nat.lt_or_ge i (posB ks k)with q | q
   ·rw[<-he];exact le_of_lt (Z1u h hp q)
   ·obtain rfl:i=posB ks k:=by omega
    rw[he];exact Z1h k
 | false=>
   rw[hh,if_neg (by decide)]at hlt;have h1:=X3o (vs:=ks) rfl h k;have h2:(ks.zip ks)[i]'(by rw[List.length_zip];omega)∈(ks.zip ks).take (posB ks k):=List.mem_take_iff_getElem.2 ⟨i,by rw[List.length_zip];omega,rfl⟩;rw[<-h1,List.mem_filter,List.getElem_zip]at h2;exact le_of_lt h2.2
theorem X5p{ks:List ByteArray}(h:Z3l ks)(k:ByteArray){i:Nat}(hi:i<ks.length)(hge:Z0h ks k<=i):ltB k ks[i]=true:=by
 unfold Z0h at hge;have h1:=X3p (vs:=ks) rfl h k;have h2:(ks.zip ks)[i]'(by rw[List.length_zip];omega)∈(ks.zip ks).drop (posB ks k+if hasB ks k=true then 1 else 0):=by rw[List.mem_drop_iff_getElem];exact⟨i-(posB ks k+if hasB ks k=true then 1 else 0),by rw[List.length_zip];omega,by congr 1;omega⟩
 rw[<-h1,List.mem_filter,List.getElem_zip]at h2;exact h2.2
theorem Z6l{α β:Type}(f:α->List β)(ts:List α){j:Nat}(hj:j<ts.length):ts.flatMap f=(ts.take j).flatMap f++f ts[j]++(ts.drop (j+1)).flatMap f:=by
 conv=>lhs;rw[<-List.take_append_drop j ts,List.drop_eq_getElem_cons hj]
 rw[aH,aI,aG]
theorem Z7s{α β:Type}(f:α->List β)(ts:List α){j:Nat}(hj:j<ts.length)(c:α):(ts.set j c).flatMap f=(ts.take j).flatMap f++f c++(ts.drop (j+1)).flatMap f:=by rw[List.set_eq_take_append_cons_drop,if_pos hj,aH,aI,aG]
theorem Y7a{d:Nat}{t:TT (d+1)}(h:okT (d+1) t)(k:ByteArray):(∀x∈((InT.kids t).take (Z0h (InT.keys t) k)).flatMap (Z0f d),ltB x.1 k=true)/\(∀x∈((InT.kids t).drop (Z0h (InT.keys t) k+1)).flatMap (Z0f d),ltB k x.1=true):=by
 obtain⟨h1,h2,_,_,h5,_⟩:=h;have hd:=Z4o (k:=k) h1;constructor
 ·intro x hx;obtain⟨c,hc,hx⟩:=List.mem_flatMap.1 hx;obtain⟨i,hi,rfl⟩:=List.mem_take_iff_getElem.1 hc;have hi':i<Z0h (InT.keys t) k:=by omega
  have hik:i<(InT.keys t).length:=by omega
  exact Z3q ((h5 i (by omega) _ (Z5a d _ x hx)).2 i hik (aF _)) (X5o h1 k hik hi')
 ·intro x hx;obtain⟨c,hc,hx⟩:=List.mem_flatMap.1 hx;obtain⟨i,hi,rfl⟩:=List.mem_drop_iff_getElem.1 hc;have hx:=(show x∈Z0f d ((InT.kids t)[Z0h (InT.keys t) k+1+i]'(by omega))by simpa [Nat.add_comm,Nat.add_left_comm]using hx);have hik:Z0h (InT.keys t) k+i<(InT.keys t).length:=by omega
  have e1:=(h5 (Z0h (InT.keys t) k+1+i) (by omega) _ (Z5a d _ x hx)).1 (Z0h (InT.keys t) k+i) hik (by omega);exact Z3q (X5p h1 k hik (by omega)) e1
theorem V2f(l:List ByteArray):l.length<=Z0o l:=by
 induction l with
 | nil=>simp
 | cons a r ih=>simp only[Z0o,List.map_cons,List.sum_cons,List.length_cons]at *;omega
theorem Y0e(l r:List ByteArray):Z0o (l++r)=Z0o l+Z0o r:=by unfold Z0o;rw[List.map_append,List.sum_append]
theorem Z7q(l:List ByteArray)(m:Nat):Z0o (l.take m)+Z0o (l.drop m)=Z0o l:=by rw[<-Y0e,List.take_append_drop]
theorem Z3r{l:List ByteArray}{q:Nat}(h:∀k∈l,k.size<=q):Z0o l<=(1+q)*l.length:=by
 induction l with
 | nil=>simp[Z0o]
 | cons a r ih=>
   have h1:=ih (fun k hk=>h k (by simp[hk]));have h2:=h a (by simp);have h3:(1+q)*(r.length+1)=(1+q)*r.length+(1+q):=Nat.mul_succ _ _;simp only[Z0o,List.map_cons,List.sum_cons,List.length_cons]at *;omega
theorem Y1s{l:List ByteArray}{m:Nat}(h:m<l.length):Z0o (l.take (m+1))=Z0o (l.take m)+(1+l[m].size):=by rw[List.take_add_one,aB h,Y0e];simp[Z0o]
theorem Z7p{l:List ByteArray}{m:Nat}(h:m<l.length):Z0o (l.drop m)=(1+l[m].size)+Z0o (l.drop (m+1)):=by rw[List.drop_eq_getElem_cons h];simp only[Z0o,List.map_cons,List.sum_cons]
def fst2(n:NodeD)(m:Nat):NodeD:=if n.leaf=true then⟨true,n.keys.take m,n.vals.take m,[]⟩else⟨false,n.keys.take m,[],n.kids.take (m+1)⟩
def snd2(n:NodeD)(m:Nat):NodeD:=if n.leaf=true then⟨true,n.keys.drop m,n.vals.drop m,[]⟩else⟨false,n.keys.drop (m+1),[],n.kids.drop (m+1)⟩
def Z8s(n:NodeD):Nat:=if n.leaf=true then 1 else 2
structure HalfAt (n:NodeD) (m:Nat):Prop where
 one:1<=m
 lt:m+Z8s n<=n.keys.length
 lo:∀j,1<=j->j<m->Z0n (fst2 n j)<=128
 hi:m+Z8s n<n.keys.length->128<Z0n (fst2 n m)
structure NodeFit (n:NodeD):Prop where
 ok:NodeOk n
 keys:∀k∈n.keys,k.size<=32
 vals:∀v∈n.vals,v.size<=80
 most:Z0n n<=if n.leaf=true then 370 else 291
theorem Z3h{n:NodeD}(h:n.leaf=true)(m:Nat):fst2 n m=⟨true,n.keys.take m,n.vals.take m,[]⟩:=if_pos h
theorem Z2c{n:NodeD}(h:n.leaf=false)(m:Nat):fst2 n m=⟨false,n.keys.take m,[],n.kids.take (m+1)⟩:=if_neg (by rw[h];decide)
theorem Z9t{n:NodeD}(h:n.leaf=true)(m:Nat):snd2 n m=⟨true,n.keys.drop m,n.vals.drop m,[]⟩:=if_pos h
theorem Z5r{n:NodeD}(h:n.leaf=false)(m:Nat):snd2 n m=⟨false,n.keys.drop (m+1),[],n.kids.drop (m+1)⟩:=if_neg (by rw[h];decide)
theorem V3n{n:NodeD}(hn:NodeFit n){m:Nat}(hm:m<n.keys.length):Z0n (fst2 n (m+1))<=Z0n (fst2 n m)+114/\(n.leaf=false->Z0n (fst2 n (m+1))<=Z0n (fst2 n m)+35)/\Z0n (fst2 n m)<=Z0n (fst2 n (m+1)):=by
 have hk:=hn.keys _ (List.getElem_mem hm);cases hl:n.leaf with
 | true=>
   have hv:=(hn.ok.leafs hl).1;have hv1:=hn.vals _ (List.getElem_mem (show m<n.vals.length by omega));rw[Z3h hl,Z3h hl];have h1:=Y1s hm;have h2:=Y1s (show m<n.vals.length by omega);unfold Z0n;simp only[List.length_nil];refine⟨?_,(fun q=>by cases q),?_⟩<;>omega
 | false=>
   have hv:=(hn.ok.inner hl).2;rw[Z2c hl,Z2c hl];have h1:=Y1s hm;have h3:(n.kids.take (m+1)).length=m+1:=by rw[aD];omega
   have h4:(n.kids.take (m+1+1)).length=m+2:=by rw[aD];omega
   have h5:Z0o []=0:=rfl;unfold Z0n;simp only[h3,h4,h1,h5];refine⟨?_,fun _=> ?_,?_⟩<;>omega
theorem V3m{n:NodeD}(hn:NodeFit n):Z0n (fst2 n 0)<=4:=by
 cases hl:n.leaf with
 | true=>rw[Z3h hl];show 2+2*0+Z0o (n.keys.take 0)+Z0o (n.vals.take 0)<=4;simp[Z0o]
 | false=>
   rw[Z2c hl];have h3:(n.kids.take (0+1)).length<=1:=by rw[aD];omega
   unfold Z0n;simp only[List.take_zero];have h5:Z0o []=0:=rfl;omega
theorem Z6a{n:NodeD}(hn:NodeFit n){m:Nat}(h:HalfAt n m):Z0n (fst2 n m)<=256/\Z0n (snd2 n m)<=256:=by
 have h1:=h.one;have hlt:=h.lt;have he:1<=Z8s n:=by unfold Z8s;split<;>omega
 have hf:Z0n (fst2 n m)<=242:=by
  have hs:=V3n hn (m:=m-1) (by omega);rw[show m-1+1=m by omega]at hs;by_cases e:m=1
  ·subst e;have:=V3m hn;simp only[Nat.sub_self]at hs;omega
  ·have:=h.lo (m-1) (by omega) (by omega);omega
 refine⟨by omega,?_⟩;have hmost:=hn.most;cases hl:n.leaf with
 | true=>
   rw[if_pos hl]at hmost;have hv:=(hn.ok.leafs hl).1;have he1:Z8s n=1:=if_pos hl;have hc:=(hn.ok.leafs hl).2;have s1:Z0n (fst2 n m)=2+Z0o (n.keys.take m)+Z0o (n.vals.take m):=by rw[Z3h hl];rfl
   have s2:Z0n (snd2 n m)=2+Z0o (n.keys.drop m)+Z0o (n.vals.drop m):=by rw[Z9t hl];rfl
   have s0:Z0n n=2+Z0o n.keys+Z0o n.vals:=by unfold Z0n;rw[hc];rfl
   have k1:=Z7q n.keys m;have k2:=Z7q n.vals m;by_cases e:m+Z8s n<n.keys.length
   ·have:=h.hi e;omega
   ·have e1:=Z7p (l:=n.keys) (m:=m) (by omega);have e2:=Z7p (l:=n.vals) (m:=m) (by omega);rw[List.drop_eq_nil_of_le (by omega:n.keys.length<=m+1)]at e1;rw[List.drop_eq_nil_of_le (by omega:n.vals.length<=m+1)]at e2;have h5:Z0o []=0:=rfl;have a1:=hn.keys _ (List.getElem_mem (show m<n.keys.length by omega));have a2:=hn.vals _ (List.getElem_mem (show m<n.vals.length by omega));omega
 | false=>
   rw[if_neg (by rw[hl];decide)]at hmost;have hv:=(hn.ok.inner hl).2;have he1:Z8s n=2:=if_neg (by rw[hl];decide);have hc:=(hn.ok.inner hl).1;have l1:(n.kids.take (m+1)).length=m+1:=by rw[aD];omega
   have l2:(n.kids.drop (m+1)).length=n.keys.length-m:=by rw[aJ];omega
   have h5:Z0o []=0:=rfl;have s1:Z0n (fst2 n m)=2+2*(m+1)+Z0o (n.keys.take m):=by rw[Z2c hl];unfold Z0n;simp only[l1,h5];omega
   have s2:Z0n (snd2 n m)=2+2*(n.keys.length-m)+Z0o (n.keys.drop (m+1)):=by rw[Z5r hl];unfold Z0n;simp only[l2,h5];omega
   have s0:Z0n n=2+2*n.kids.length+Z0o n.keys:=by unfold Z0n;rw[hc,h5];rfl
   have k1:=Z7q n.keys m;have e1:=Z7p (l:=n.keys) (m:=m) (by omega);by_cases e:m+Z8s n<n.keys.length
   ·have:=h.hi e;omega
   ·have e2:=Z7p (l:=n.keys) (m:=m+1) (by omega);rw[List.drop_eq_nil_of_le (by omega:n.keys.length<=m+1+1)]at e2;have a1:=hn.keys _ (List.getElem_mem (show m+1<n.keys.length by omega));omega
theorem Z5u{n:NodeD}(h:NodeOk n){m:Nat}(hm:m+Z8s n<=n.keys.length):NodeOk (fst2 n m):=by
 have hmany:=h.many;cases hl:n.leaf with
 | true=>
   have he1:Z8s n=1:=if_pos hl;rw[Z3h hl];refine⟨fun k hk=>h.keys k (List.mem_of_mem_take hk),fun k hk=>h.vals k (List.mem_of_mem_take hk),fun c hc=>by simp at hc,?_,fun _=>⟨?_,rfl⟩,fun q=>by cases q⟩
   ·show(n.keys.take m).length<=255;rw[aD];omega
   ·show(n.vals.take m).length=(n.keys.take m).length;rw[aD,aD,(h.leafs hl).1]
 | false=>
   have he1:Z8s n=2:=if_neg (by rw[hl];decide);rw[Z2c hl];have hv:=(h.inner hl).2;refine⟨fun k hk=>h.keys k (List.mem_of_mem_take hk),fun k hk=>by simp at hk,fun c hc=>h.kids c (List.mem_of_mem_take hc),?_,fun q=>(by cases q),fun _=>⟨rfl,?_⟩⟩
   ·show(n.keys.take m).length<=255;rw[aD];omega
   ·show(n.kids.take (m+1)).length=(n.keys.take m).length+1;rw[aD,aD];omega
theorem Y6j{n:NodeD}(h:NodeOk n){m:Nat}(hm:m+Z8s n<=n.keys.length):NodeOk (snd2 n m):=by
 have hmany:=h.many;cases hl:n.leaf with
 | true=>
   have he1:Z8s n=1:=if_pos hl;rw[Z9t hl];refine⟨fun k hk=>h.keys k (List.mem_of_mem_drop hk),fun k hk=>h.vals k (List.mem_of_mem_drop hk),fun c hc=>by simp at hc,?_,fun _=>⟨?_,rfl⟩,fun q=>by cases q⟩
   ·show(n.keys.drop m).length<=255;rw[aJ];omega
   ·show(n.vals.drop m).length=(n.keys.drop m).length;rw[aJ,aJ,(h.leafs hl).1]
 | false=>
   have he1:Z8s n=2:=if_neg (by rw[hl];decide);rw[Z5r hl];have hv:=(h.inner hl).2;refine⟨fun k hk=>h.keys k (List.mem_of_mem_drop hk),fun k hk=>by simp at hk,fun c hc=>h.kids c (List.mem_of_mem_drop hc),?_,fun q=>(by cases q),fun _=>⟨rfl,?_⟩⟩
   ·show(n.keys.drop (m+1)).length<=255;rw[aJ];omega
   ·show(n.kids.drop (m+1)).length=(n.keys.drop (m+1)).length+1;rw[aJ,aJ];omega
def CutD(S:StoreD)(a:Nat)(n:NodeD):Option (Nat×Nat)->StoreD->Prop
 | none,S'=>Z0n n<=256/\S'=layP S a n
 | some x,S'=>256<Z0n n/\HalfAt n x.1/\lowS S=some x.2/\S'=layP (layP (Z1f S x.2) a (fst2 n x.1)) x.2 (snd2 n x.1)
theorem X5t{S S':StoreD}{a:Nat}{n:NodeD}(h:CutD S a n none S')(hf:Fm S)(hg:Z0s S a)(hn:NodeOk n):Stp (fun b=>b=a) [] [] S S'/\PageN S' a n:=by obtain⟨h1,rfl⟩:=h;exact⟨Z5n hf.full hg.1 hn h1,Z4f hg hn h1⟩
theorem X5s{S S':StoreD}{a m r:Nat}{n:NodeD}(h:CutD S a n (some (m,r)) S')(hf:Fm S)(hg:Z0s S a)(hn:NodeFit n):
  Stp (fun b=>b=a) [r] [] S S'/\PageN S' a (fst2 n m)/\PageN S' r (snd2 n m)/\Z0y S r=false/\2<=r/\r<S.head.pages/\r≠a:=by
 obtain⟨_,hh,hr,rfl⟩:=h;obtain⟨r1,r2,r3⟩:=Z4z hr;have hm:=hf.most;have hra:r≠a:=fun e=>by subst e;rw[hg.2.2]at r3;cases r3
 obtain⟨s1,s2⟩:=Z6a hn hh;have k1:=Z5u hn.ok hh.lt;have k2:=Y6j hn.ok hh.lt;have t1:=Z7b hf.full r1 (by omega:r<2048);have g1:Z0s (Z1f S r) a:=t1.given hg (by simp);have g1r:Z0s (Z1f S r) r:=t1.givenF r1 r2 (by simp) (by simp);have t2:=Z5n t1.full hg.1 k1 s1;have p2:=Z4f g1 k1 s1;have g2r:Z0s (layP (Z1f S r) a (fst2 n m)) r:=t2.given g1r (by simp);have t3:=Z5n t2.full r1 k2 s2;have p3:=Z4f g2r k2 s2;have t12:=t1.trans (Q:=fun b=>b=a) t2 (fun b q=>by cases q) (fun b q=> .inr (.inr q));have t123:=t12.trans (Q:=fun _=>False) t3 (fun b q=>by cases q) (fun b q=> .inr (.inl (by subst q;simp)));refine⟨?_,p2.stp t3 (fun q=>hra q.symm) (by simp) (by simp),p3,r3,r1,r2,hra⟩;have:=t123.mono (P':=fun b=>b=a) (fun b q=>by
  rcases q with (q | q) | q
  ·exact q.elim
  ·exact q
  ·exact q.elim)
 simpa using this
theorem Z2f{α:Type}{f:α->List ByteArray}{ks:List ByteArray}{ts:List α}:SepT f ks ts↔∀(j:Nat) (c:α),ts[j]? =some c->∀x∈f c,∀(i:Nat) (s:ByteArray),ks[i]? =some s->(i<j->ltB x s=false)/\(j<=i->ltB x s=true):=by
 constructor
 ·intro h j c hc x hx i s hs;obtain⟨hj,rfl⟩:=aC.1 hc;obtain⟨hi,rfl⟩:=aC.1 hs;exact⟨fun q=>(h j hj x hx).1 i hi q,fun q=>(h j hj x hx).2 i hi q⟩
 ·intro h j hj x hx;exact⟨fun i hi q=>(h j _ (aB hj) x hx i _ (aB hi)).1 q,fun i hi q=>(h j _ (aB hj) x hx i _ (aB hi)).2 q⟩
theorem Y8n{α:Type}(l:List α)(p:Nat)(hp:p<=l.length)(x:α)(i:Nat):(insL l p x)[i]? =if i<p then l[i]? else if i=p then some x else l[i-1]? :=by
 unfold insL;rw[List.getElem?_append,aD,Nat.min_eq_left hp];split
 ·rw[List.getElem?_take,if_pos (by assumption)]
 ·split
  ·rename_i h1 h2;subst h2;rw[Nat.sub_self];rfl
  ·rename_i h1 h2
   obtain⟨q,hq⟩:∃q,i-p=q+1:=⟨i-p-1,by omega⟩;rw[hq,List.getElem?_cons_succ,List.getElem?_drop]
   congr 1;omega
theorem Y4m{α:Type}(ts:List α){j:Nat}(hj:j<ts.length)(c r:α)(i:Nat):(insL (ts.set j c) (j+1) r)[i]? =if i<j then ts[i]? else if i=j then some c else if i=j+1 then some r else ts[i-1]? :=by
 rw[Y8n _ _ (by rw[List.length_set];omega),List.getElem?_set,List.getElem?_set];by_cases h1:i<j
 ·rw[if_pos (by omega),if_neg (by omega),if_pos h1]
 ·by_cases h2:i=j
  ·subst h2;rw[if_pos (by omega),if_pos rfl,if_neg h1,if_pos rfl,if_pos hj]
  ·by_cases h3:i=j+1
   ·subst h3;rw[if_neg (by omega),if_pos rfl,if_neg h1,if_neg h2,if_pos rfl]
   ·rw[if_neg (by omega),if_neg h3,if_neg (by omega),if_neg h1,if_neg h2,if_neg h3]
theorem X8a{α β:Type}(f:α->List β)(l:List α)(i:Nat)(x:α):(insL l i x).flatMap f=(l.take i).flatMap f++f x++(l.drop i).flatMap f:=by unfold insL;rw[aH,aI,aG]
theorem Y6l{α β:Type}(f:α->List β)(ts:List α){j:Nat}(hj:j<ts.length)(c r:α):(insL (ts.set j c) (j+1) r).flatMap f=(ts.take j).flatMap f++(f c++f r)++(ts.drop (j+1)).flatMap f:=by
 rw[X8a,List.set_eq_take_append_cons_drop,if_pos hj];have h1:(ts.take j++c::ts.drop (j+1)).take (j+1)=ts.take j++ [c]:=by rw[List.take_append,aD,Nat.min_eq_left (by omega),List.take_of_length_le (by rw[aD];omega),show j+1-j=1 by omega];rfl
 have h2:(ts.take j++c::ts.drop (j+1)).drop (j+1)=ts.drop (j+1):=by rw[List.drop_append,aD,Nat.min_eq_left (by omega),List.drop_eq_nil_of_le (by rw[aD];omega),show j+1-j=1 by omega];rfl
 rw[h1,h2,aH];simp
theorem Z8j{α:Type}{l:List α}{p:Nat}{x y:α}(h:y∈insL l p x):y=x\/y∈l:=by
 unfold insL at h;rw[List.mem_append,List.mem_cons]at h;rcases h with h | h | h
 ·exact .inr (List.mem_of_mem_take h)
 ·exact .inl h
 ·exact .inr (List.mem_of_mem_drop h)
theorem V0t{l:List KV}(h:Z6w l)(k v:ByteArray):Z6w (Z6u l k v):=by
 unfold Z6w Z6u;rw[List.pairwise_append,List.pairwise_cons];refine⟨h.filter _,⟨fun x hx=>(List.mem_filter.1 hx).2,h.filter _⟩,fun x hx y hy=> ?_⟩;have h1:=(List.mem_filter.1 hx).2;rcases List.mem_cons.1 hy with rfl | hy
 ·exact h1
 ·exact Z1q h1 (List.mem_filter.1 hy).2
def Z6s(t:LeafT)(k v:ByteArray):LeafT:=⟨t.at_,(putN (Z0c 0 t) k v).keys,(putN (Z0c 0 t) k v).vals⟩
theorem Z5s(t:LeafT)(k v:ByteArray):Z0c 0 (Z6s t k v)=putN (Z0c 0 t) k v:=by unfold Z6s putN;show NodeD.mk true _ _ []=_;cases hasB (Z0c 0 t).keys k<;>rfl
theorem Y8a{n:NodeD}{k v:ByteArray}:(∀x∈(putN n k v).keys,x=k\/x∈n.keys)/\(∀x∈(putN n k v).vals,x=v\/x∈n.vals):=by
 unfold putN;split
 ·exact⟨fun x hx=> .inr hx,fun x hx=>(List.mem_or_eq_of_mem_set hx).symm⟩
 ·exact⟨fun x hx=>Z8j hx,fun x hx=>Z8j hx⟩
theorem X0e{n:NodeD}(k v:ByteArray)(h:n.vals.length=n.keys.length):(putN n k v).vals.length=(putN n k v).keys.length/\(putN n k v).keys.length<=n.keys.length+1:=by
 unfold putN;split
 ·exact⟨by simpa using h,by simp⟩
 ·exact⟨by simp only[Z1b,h],by simp only[Z1b];omega⟩
theorem Y4n(l:List ByteArray)(i:Nat)(x:ByteArray):Z0o (insL l i x)=Z0o l+(1+x.size):=by
 unfold insL;have:=Z7q l i;have h1:∀r,Z0o (x::r)=1+x.size+Z0o r:=fun r=>by simp[Z0o]
 rw[Y0e,h1];omega
theorem V2s(l:List ByteArray)(i:Nat)(x:ByteArray):Z0o (l.set i x)<=Z0o l+(1+x.size):=by
 by_cases hi:i<l.length
 ·rw[List.set_eq_take_append_cons_drop,if_pos hi];have h1:=Z7q l i;have h2:=Z7p hi;have h3:∀r,Z0o (x::r)=1+x.size+Z0o r:=fun r=>by simp[Z0o]
  rw[Y0e,h3];omega
 ·rw[List.set_eq_of_length_le (by omega)];omega
theorem V0x(n:NodeD)(k v:ByteArray):Z0n (putN n k v)<=Z0n n+(1+k.size)+(1+v.size):=by
 unfold putN;split
 ·have:=V2s n.vals (posB n.keys k) v;show 2+2*n.kids.length+Z0o n.keys+Z0o (n.vals.set _ v)<=2+2*n.kids.length+Z0o n.keys+Z0o n.vals+_+_;omega
 ·have h1:=Y4n n.keys (posB n.keys k) k;have h2:=Y4n n.vals (posB n.keys k) v;show 2+2*n.kids.length+Z0o (insL n.keys _ k)+Z0o (insL n.vals _ v)<=2+2*n.kids.length+Z0o n.keys+Z0o n.vals+_+_;omega
theorem PageN.small{S:StoreD}{a:Nat}{n:NodeD}(h:PageN S a n):Z0n n<=256:=by rw[<-Z7m n h.ok];exact h.fits
theorem Z8g(n:NodeD):2+n.keys.length<=Z0n n:=by have:=V2f n.keys;unfold Z0n;omega
theorem Y6f{t:LeafT}(h:okT 0 t)(k v:ByteArray):Z0f 0 (Z6s t k v)=Z6u (Z0f 0 t) k v:=V3a h.2.1 h.1 k v
theorem X4p{t:LeafT}(h:okT 0 t){k v:ByteArray}(hk:Z2o k)(hv:v.size<=80):okT 0 (Z6s t k v):=by
 have hl:=(X0e (n:=Z0c 0 t) k v h.2.1).1;refine⟨?_,hl,fun x hx=> ?_,fun x hx=> ?_⟩
 ·have h1:Z6w (Z0f 0 (Z6s t k v)):=by rw[Y6f h];exact V0t (Z4u 0 t h) k v
  have h2:((Z0f 0 (Z6s t k v)).map (·.1)).Pairwise (fun a b=>ltB a b=true):=List.pairwise_map.2 h1;have h3:(Z0f 0 (Z6s t k v)).map (·.1)=LeafT.keys (Z6s t k v):=List.map_fst_zip (by show(Z6s t k v).keys.length<=(Z6s t k v).vals.length;exact Nat.le_of_eq hl.symm);rw[h3]at h2;exact h2
 ·rcases Y8a.1 x hx with rfl | hx
  ·exact hk
  ·exact h.2.2.1 x hx
 ·rcases Y8a.2 x hx with rfl | hx
  ·exact hv
  ·exact h.2.2.2 x hx
theorem X0f{S:StoreD}{t:LeafT}(ho:onT S 0 t)(h:okT 0 t){k v:ByteArray}(hk:Z2o k)(hv:v.size<=80):NodeFit (Z0c 0 (Z6s t k v)):=by
 have hok:=X4p h hk hv;have h1:=PageN.small ho;have h2:=V0x (Z0c 0 t) k v;have h3:=Z8g (Z0c 0 t);have h4:=(X0e (n:=Z0c 0 t) k v h.2.1).2;have hk2:=hk.2;refine⟨⟨fun x hx=> ?_,fun x hx=> ?_,fun c hc=>by simp[Z0c]at hc,?_,fun _=>⟨hok.2.1,rfl⟩,fun q=>by cases q⟩,fun x hx=>(hok.2.2.1 x hx).2,fun x hx=>hok.2.2.2 x hx,?_⟩
 ·have:=(hok.2.2.1 x hx).2;omega
 ·have:=hok.2.2.2 x hx;omega
 ·show(putN (Z0c 0 t) k v).keys.length<=255;omega
 ·rw[Z5s];have h5:(if (putN (Z0c 0 t) k v).leaf=true then 370 else 291)=370:=by rw[<-Z5s];rfl
  rw[h5];omega
def Z8v(d:Nat)(o:Option (ByteArray×TT d)):List Nat:=match o with | none=> [] | some x=>Z0a d x.2
def X7s(d:Nat)(o:Option (ByteArray×TT d)):List KV:=match o with | none=> [] | some x=>Z0f d x.2
structure RightL (d:Nat) (S':StoreD) (A B:ByteArray->Prop) (t':TT d) (mid:ByteArray) (r:TT d):Prop where
 on:onT S' d r
 ok:okT d r
 key:A mid
 below:∀x∈allT d t',ltB x mid=true
 above:∀x∈allT d r,ltB x mid=false
 all:∀x∈allT d r,A x
 some:∃x,x∈allT d t'
 sep:∀x∈sepT d r,B x
 sabove:∀x∈sepT d r,ltB mid x=true
structure StepL (d:Nat) (q:Nat) (S:StoreD) (P:Nat->Prop) (A B:ByteArray->Prop) (ps:List Nat) (a:Nat) (l:List KV) (S':StoreD) (t':TT d) (o:Option (ByteArray×TT d)) (F:List Nat):Prop where
 stp:Stp P F [] S S'
 nd:F.Nodup
 fresh:∀b∈F,Z0y S b=false/\2<=b/\b<S.head.pages
 len:F.length<=q
 at_:atT d t'=a
 on:onT S' d t'
 ok:okT d t'
 pages:(Z0a d t'++Z8v d o).Perm (ps++F)
 list:Z0f d t'++X7s d o=l
 all:∀x∈allT d t',A x
 sep:∀x∈sepT d t',B x
 right:∀mid r,o=some (mid,r)->RightL d S' A B t' mid r
def U2o(S:StoreD)(L:TT 0)(S':StoreD)(t':TT 0)(o:Option (ByteArray×TT 0)):Prop:=
 ∃x,CutD S (LeafT.at_ L) (Z0c 0 L) x S'/\match x with
  | none=>t'=L/\o=none
  | some (m,r)=>∃mid,(LeafT.keys L)[m]? =some mid/\t'=LeafT.mk (LeafT.at_ L) ((LeafT.keys L).take m) ((LeafT.vals L).take m)/\o=some (mid,LeafT.mk r ((LeafT.keys L).drop m) ((LeafT.vals L).drop m))
def V5a(d:Nat)(S:StoreD)(L:TT (d+1))(S':StoreD)(t':TT (d+1))(o:Option (ByteArray×TT (d+1))):Prop:=
 ∃x,CutD S (InT.at_ L) (Z0c (d+1) L) x S'/\match x with
  | none=>t'=L/\o=none
  | some (m,r)=>∃mid,(InT.keys L)[m]? =some mid/\t'=InT.mk (InT.at_ L) ((InT.keys L).take m) ((InT.kids L).take (m+1))/\o=some (mid,InT.mk r ((InT.keys L).drop (m+1)) ((InT.kids L).drop (m+1)))
theorem V4n{S S':StoreD}{L:TT 0}{t':TT 0}{o:Option (ByteArray×TT 0)}(h:U2o S L S' t' o)(hf:Fm S)(hg:Z0s S (LeafT.at_ L))(hok:okT 0 L)(hn:NodeFit (Z0c 0 L)):
  ∃F,StepL 0 1 S (fun b=>b=LeafT.at_ L) (fun x=>x∈allT 0 L) (fun x=>x∈sepT 0 L) (Z0a 0 L) (LeafT.at_ L) (Z0f 0 L) S' t' o F:=by
 obtain⟨x,hc,hx⟩:=h;cases x with
 | none=>
   obtain⟨rfl,rfl⟩:=hx;obtain⟨h1,h2⟩:=X5t hc hf hg hn.ok;exact⟨[],h1,List.nodup_nil,(fun b q=>by cases q),by simp,rfl,h2,hok,by simp[Z8v],by simp[X7s],fun x hx=>hx,fun x hx=>hx,(fun mid r q=>by cases q)⟩
 | some x=>
   obtain⟨m,r⟩:=x;obtain⟨mid,hmid,rfl,rfl⟩:=hx;obtain⟨h1,h2,h3,h4,h5,h6,h7⟩:=X5s hc hf hg hn;have hh:=hc.2.1;obtain⟨hm,rfl⟩:=aC.1 hmid;obtain⟨k1,k2,k3,k4⟩:=hok;have hone:=hh.one;refine⟨[r],h1,by simp,fun b q=> ?_,by simp,rfl,h2,?_,?_,?_,fun x hx=>List.mem_of_mem_take hx,(fun x hx=>by cases hx),fun mid r' q=> ?_⟩
   ·simp only[List.mem_singleton]at q;subst q;exact⟨h4,h5,h6⟩
   ·exact⟨k1.sublist (List.take_sublist _ _),by show(List.take m _).length=(List.take m _).length;rw[aD,aD,k2],fun x hx=>k3 x (List.mem_of_mem_take hx),fun x hx=>k4 x (List.mem_of_mem_take hx)⟩
   ·show([LeafT.at_ L]++ [r]).Perm ([LeafT.at_ L]++ [r]);exact List.Perm.refl _
   ·show((LeafT.keys L).take m).zip ((LeafT.vals L).take m)++((LeafT.keys L).drop m).zip ((LeafT.vals L).drop m)=(LeafT.keys L).zip (LeafT.vals L);rw[<-Y3m,<-Y4v,List.take_append_drop]
   ·injection q with q;injection q with q1 q2;subst q1 q2;refine⟨h3,⟨k1.sublist (List.drop_sublist _ _),by show(List.drop m _).length=(List.drop m _).length;rw[aJ,aJ,k2],fun x hx=>k3 x (List.mem_of_mem_drop hx),fun x hx=>k4 x (List.mem_of_mem_drop hx)⟩,List.getElem_mem hm,fun x hx=> ?_,fun x hx=> ?_,fun x hx=>List.mem_of_mem_drop hx,?_,(fun x hx=>by cases hx),(fun x hx=>by cases hx)⟩
    ·obtain⟨i,hi,rfl⟩:=List.mem_take_iff_getElem.1 hx;exact Z1u k1 hm (by omega)
    ·obtain⟨i,hi,rfl⟩:=List.mem_drop_iff_getElem.1 hx;rcases Nat.eq_zero_or_pos i with e | e
     ·subst e;exact Z1h _
     ·exact le_of_lt (Z1u k1 (by omega) (by omega))
    ·exact⟨(LeafT.keys L)[0],List.mem_take_iff_getElem.2 ⟨0,by omega,rfl⟩⟩
theorem V4m{d:Nat}{S S':StoreD}{L:TT (d+1)}{t':TT (d+1)}{o:Option (ByteArray×TT (d+1))}(h:V5a d S L S' t' o)(hf:Fm S)(hg:Z0s S (InT.at_ L))(hok:okT (d+1) L)(hn:NodeFit (Z0c (d+1) L))
 (hon:∀c∈InT.kids L,onT S d c)(hnd:∀c∈InT.kids L,InT.at_ L∉Z0a d c):
  ∃F,StepL (d+1) 1 S (fun b=>b=InT.at_ L) (fun x=>x∈allT (d+1) L) (fun x=>x∈sepT (d+1) L) (Z0a (d+1) L) (InT.at_ L) (Z0f (d+1) L) S' t' o F:=by
 obtain⟨x,hc,hx⟩:=h;have hkid:∀ {P:Nat->Prop} {F:List Nat} {S':StoreD},Stp P F [] S S'->(∀b,P b->b=InT.at_ L)->(∀b∈F,Z0y S b=false)->∀c∈InT.kids L,onT S' d c:=fun hs hP hF c hc=>Z7l hs d c (hon c hc) (fun b q=>⟨(fun r=>by rw[hP b r]at q;exact hnd c hc q),(fun r=>by have:=(Z0l d c (hon c hc) b q).2.2;rw[hF b r]at this;cases this),by simp⟩);cases x with
 | none=>
   obtain⟨rfl,rfl⟩:=hx;obtain⟨h1,h2⟩:=X5t hc hf hg hn.ok;exact⟨[],h1,List.nodup_nil,(fun b q=>by cases q),by simp,rfl,⟨h2,hkid h1 (fun _ q=>q) (by simp)⟩,hok,by simp[Z8v],by simp[X7s],fun x hx=>hx,fun x hx=>hx,(fun mid r q=>by cases q)⟩
 | some x=>
   obtain⟨m,r⟩:=x;obtain⟨mid,hmid,rfl,rfl⟩:=hx;obtain⟨h1,h2,h3,h4,h5,h6,h7⟩:=X5s hc hf hg hn;have hh:=hc.2.1;obtain⟨hm,rfl⟩:=aC.1 hmid;obtain⟨k1,k2,k3,k4,k5,k6⟩:=hok;have hone:=hh.one;have hkd:=hkid h1 (fun _ q=>q) (fun b q=>by simp only[List.mem_singleton]at q;subst q;exact h4);have hs:=Z2f.1 k5;have e1:(InT.kids L).take (m+1)++(InT.kids L).drop (m+1)=InT.kids L:=List.take_append_drop _ _;refine⟨[r],h1,by simp,fun b q=> ?_,by simp,rfl,⟨?_,fun c hc=>hkd c (List.mem_of_mem_take hc)⟩,?_,?_,?_,fun x hx=> ?_,fun x hx=> ?_,fun mid r' q=> ?_⟩
   ·simp only[List.mem_singleton]at q;subst q;exact⟨h4,h5,h6⟩
   ·have e:Z0c (d+1) (InT.mk (InT.at_ L) ((InT.keys L).take m) ((InT.kids L).take (m+1)))=fst2 (Z0c (d+1) L) m:=by rw[Z2c rfl];show NodeD.mk false _ [] (((InT.kids L).take (m+1)).map _)=NodeD.mk false _ [] (((InT.kids L).map _).take (m+1));rw[List.map_take];rfl
    rw[e];exact h2
   ·refine⟨k1.sublist (List.take_sublist _ _),?_,fun x hx=>k3 x (List.mem_of_mem_take hx),fun c hc=>k4 c (List.mem_of_mem_take hc),Z2f.2 (fun j c hc x hx i s hs'=> ?_),fun j c hc x hx i s hs' hij=> ?_⟩
    ·show((InT.kids L).take (m+1)).length=((InT.keys L).take m).length+1;rw[aD,aD];omega
    ·have hc':(InT.kids L)[j]? =some c:=by
      have:((InT.kids L).take (m+1))[j]? =some c:=hc;rw[List.getElem?_take]at this;split at this
      ·exact this
      ·cases this
     have hs2:(InT.keys L)[i]? =some s:=by
      have:((InT.keys L).take m)[i]? =some s:=hs';rw[List.getElem?_take]at this;split at this
      ·exact this
      ·cases this
     exact hs j c hc' x hx i s hs2
    ·have hc':(InT.kids L)[j]? =some c:=by
      have:((InT.kids L).take (m+1))[j]? =some c:=hc;rw[List.getElem?_take]at this;split at this
      ·exact this
      ·cases this
     have hs2:(InT.keys L)[i]? =some s:=by
      have:((InT.keys L).take m)[i]? =some s:=hs';rw[List.getElem?_take]at this;split at this
      ·exact this
      ·cases this
     exact k6 j c hc' x hx i s hs2 hij
   ·show((InT.at_ L::((InT.kids L).take (m+1)).flatMap (Z0a d))++(r::((InT.kids L).drop (m+1)).flatMap (Z0a d))).Perm ((InT.at_ L::(InT.kids L).flatMap (Z0a d))++ [r])
    conv=>rhs;rw[<-e1,aH]
    rw[List.cons_append,List.cons_append,List.perm_cons];refine List.perm_middle.trans ?_;exact(List.perm_append_singleton r _).symm
   ·show((InT.kids L).take (m+1)).flatMap (Z0f d)++((InT.kids L).drop (m+1)).flatMap (Z0f d)=(InT.kids L).flatMap (Z0f d);rw[<-aH,e1]
   ·have hx':x∈(InT.keys L).take m++((InT.kids L).take (m+1)).flatMap (allT d):=hx;show x∈InT.keys L++(InT.kids L).flatMap (allT d);rw[List.mem_append,List.mem_flatMap]at hx' ⊢;rcases hx' with q | ⟨c,q1,q2⟩
    ·exact .inl (List.mem_of_mem_take q)
    ·exact .inr ⟨c,List.mem_of_mem_take q1,q2⟩
   ·have hx':x∈(InT.keys L).take m++((InT.kids L).take (m+1)).flatMap (sepT d):=hx;show x∈InT.keys L++(InT.kids L).flatMap (sepT d);rw[List.mem_append,List.mem_flatMap]at hx' ⊢;rcases hx' with q | ⟨c,q1,q2⟩
    ·exact .inl (List.mem_of_mem_take q)
    ·exact .inr ⟨c,List.mem_of_mem_take q1,q2⟩
   ·injection q with q;injection q with q1 q2;subst q1 q2;refine⟨⟨?_,fun c hc=>hkd c (List.mem_of_mem_drop hc)⟩,?_,?_,fun x hx=> ?_,fun x hx=> ?_,fun x hx=> ?_,?_,fun x hx=> ?_,fun x hx=> ?_⟩
    ·have e:Z0c (d+1) (InT.mk r ((InT.keys L).drop (m+1)) ((InT.kids L).drop (m+1)))=snd2 (Z0c (d+1) L) m:=by rw[Z5r rfl];show NodeD.mk false _ [] (((InT.kids L).drop (m+1)).map _)=NodeD.mk false _ [] (((InT.kids L).map _).drop (m+1));rw[List.map_drop];rfl
     rw[e];exact h3
    ·refine⟨k1.sublist (List.drop_sublist _ _),?_,fun x hx=>k3 x (List.mem_of_mem_drop hx),fun c hc=>k4 c (List.mem_of_mem_drop hc),Z2f.2 (fun j c hc x hx i s hs'=> ?_),fun j c hc x hx i s hs' hij=> ?_⟩
     ·show((InT.kids L).drop (m+1)).length=((InT.keys L).drop (m+1)).length+1;rw[aJ,aJ];omega
     ·have hc':(InT.kids L)[m+1+j]? =some c:=by have:((InT.kids L).drop (m+1))[j]? =some c:=hc;rwa [List.getElem?_drop]at this
      have hs2:(InT.keys L)[m+1+i]? =some s:=by have:((InT.keys L).drop (m+1))[i]? =some s:=hs';rwa [List.getElem?_drop]at this
      have:=hs _ c hc' x hx _ s hs2;exact⟨fun q=>this.1 (by omega),fun q=>this.2 (by omega)⟩
     ·have hc':(InT.kids L)[m+1+j]? =some c:=by have:((InT.kids L).drop (m+1))[j]? =some c:=hc;rwa [List.getElem?_drop]at this
      have hs2:(InT.keys L)[m+1+i]? =some s:=by have:((InT.keys L).drop (m+1))[i]? =some s:=hs';rwa [List.getElem?_drop]at this
      exact k6 _ c hc' x hx _ s hs2 (by omega)
    ·show _∈InT.keys L++_;exact List.mem_append_left _ (List.getElem_mem hm)
    ·have hx':x∈(InT.keys L).take m++((InT.kids L).take (m+1)).flatMap (allT d):=hx;rw[List.mem_append,List.mem_flatMap]at hx';rcases hx' with q | ⟨c,q1,q2⟩
     ·obtain⟨i,hi,rfl⟩:=List.mem_take_iff_getElem.1 q;exact Z1u k1 hm (by omega)
     ·obtain⟨i,hi,rfl⟩:=List.mem_take_iff_getElem.1 q1;exact(hs i _ (aB (by omega)) x q2 m _ (aB hm)).2 (by omega)
    ·have hx':x∈(InT.keys L).drop (m+1)++((InT.kids L).drop (m+1)).flatMap (allT d):=hx;rw[List.mem_append,List.mem_flatMap]at hx';rcases hx' with q | ⟨c,q1,q2⟩
     ·obtain⟨i,hi,rfl⟩:=List.mem_drop_iff_getElem.1 q;exact le_of_lt (Z1u k1 (by omega) (by omega))
     ·obtain⟨i,hi,rfl⟩:=List.mem_drop_iff_getElem.1 q1;exact(hs (m+1+i) _ (aB (by omega)) x q2 m _ (aB hm)).1 (by omega)
    ·have hx':x∈(InT.keys L).drop (m+1)++((InT.kids L).drop (m+1)).flatMap (allT d):=hx;show x∈InT.keys L++(InT.kids L).flatMap (allT d);rw[List.mem_append,List.mem_flatMap]at hx' ⊢;rcases hx' with q | ⟨c,q1,q2⟩
     ·exact .inl (List.mem_of_mem_drop q)
     ·exact .inr ⟨c,List.mem_of_mem_drop q1,q2⟩
    ·refine⟨(InT.keys L)[0],?_⟩;show _∈(InT.keys L).take m++_;exact List.mem_append_left _ (List.mem_take_iff_getElem.2 ⟨0,by omega,rfl⟩)
    ·have hx':x∈(InT.keys L).drop (m+1)++((InT.kids L).drop (m+1)).flatMap (sepT d):=hx;show x∈InT.keys L++(InT.kids L).flatMap (sepT d);rw[List.mem_append,List.mem_flatMap]at hx' ⊢;rcases hx' with q | ⟨c,q1,q2⟩
     ·exact .inl (List.mem_of_mem_drop q)
     ·exact .inr ⟨c,List.mem_of_mem_drop q1,q2⟩
    ·have hx':x∈(InT.keys L).drop (m+1)++((InT.kids L).drop (m+1)).flatMap (sepT d):=hx;rw[List.mem_append,List.mem_flatMap]at hx';rcases hx' with q | ⟨c,q1,q2⟩
     ·obtain⟨i,hi,rfl⟩:=List.mem_drop_iff_getElem.1 q;exact Z1u k1 (by omega) (by omega)
     ·obtain⟨i,hi,rfl⟩:=List.mem_drop_iff_getElem.1 q1;exact k6 (m+1+i) _ (aB (by omega)) x q2 m _ (aB hm) (by omega)
def UpR(d:Nat)(S1:StoreD)(t:TT (d+1))(j:Nat)(c':TT d)(o1:Option (ByteArray×TT d))(S':StoreD)(t':TT (d+1))(o:Option (ByteArray×TT (d+1))):Prop:=match o1 with
 | none=>S'=S1/\t'=InT.mk (InT.at_ t) (InT.keys t) ((InT.kids t).set j c')/\o=none
 | some x=>V5a d S1 (InT.mk (InT.at_ t) (insL (InT.keys t) j x.1) (insL ((InT.kids t).set j c') (j+1) x.2)) S' t' o
def PutR:(d:Nat)->StoreD->TT d->ByteArray->ByteArray->StoreD->TT d->Option (ByteArray×TT d)->Prop
 | 0,S,t,k,v,S',t',o=>U2o S (Z6s t k v) S' t' o
 | d+1,S,t,k,v,S',t',o=>∃c,(InT.kids t)[Z0h (InT.keys t) k]? =some c/\∃S1 c' o1,PutR d S c k v S1 c' o1/\UpR d S1 t (Z0h (InT.keys t) k) c' o1 S' t' o
def Y2j(ks:List ByteArray)(j:Nat)(x:ByteArray):Prop:=∀(i:Nat) (s:ByteArray),ks[i]? =some s->(i<j->ltB x s=false)/\(j<=i->ltB x s=true)
theorem Y0t{ks:List ByteArray}(h:Z3l ks)(k:ByteArray):Y2j ks (Z0h ks k) k:=fun i s hs=>by obtain⟨hi,rfl⟩:=aC.1 hs;exact⟨fun q=>X5o h k hi q,fun q=>X5p h k hi q⟩
theorem V0h{d:Nat}{ks:List ByteArray}{ts:List (TT d)}{j:Nat}{c':TT d}(h:SepT (allT d) ks ts)(hc:∀x∈allT d c',Y2j ks j x):SepT (allT d) ks (ts.set j c'):=by
 rw[Z2f]at h ⊢;intro i c hi x hx;rw[List.getElem?_set]at hi;split at hi
 ·rename_i e
  subst e;split at hi
  ·injection hi with hi;subst hi;exact hc x hx
  ·cases hi
 ·exact h i c hi x hx
theorem V6b{ks:List ByteArray}{j:Nat}{mid:ByteArray}(h:Z3l ks)(hj:j<=ks.length)(hlo:∀i s,ks[i]? =some s->i<j->ltB s mid=true)(hhi:∀i s,ks[i]? =some s->j<=i->ltB mid s=true):Z3l (insL ks j mid):=by
 unfold Z3l insL;rw[List.pairwise_append,List.pairwise_cons];have h1:∀x∈ks.take j,ltB x mid=true:=fun x hx=>by obtain⟨i,hi,rfl⟩:=List.mem_take_iff_getElem.1 hx;exact hlo i _ (aB (by omega)) (by omega)
 have h2:∀x∈ks.drop j,ltB mid x=true:=fun x hx=>by obtain⟨i,hi,rfl⟩:=List.mem_drop_iff_getElem.1 hx;exact hhi (j+i) _ (aB (by omega)) (by omega)
 refine⟨h.sublist (List.take_sublist _ _),⟨h2,h.sublist (List.drop_sublist _ _)⟩,fun x hx y hy=> ?_⟩;rcases List.mem_cons.1 hy with rfl | hy
 ·exact h1 x hx
 ·exact Z1q (h1 x hx) (h2 y hy)
theorem U0n{d:Nat}{ks:List ByteArray}{ts:List (TT d)}{j:Nat}{c' r:TT d}{mid:ByteArray}(h:SepT (allT d) ks ts)(hl:ts.length=ks.length+1)(hr:Z3l ks)(hj:j<=ks.length)(hc:∀x∈allT d c',Y2j ks j x)(hd:∀x∈allT d r,Y2j ks j x)
 (hlo:∀i s,ks[i]? =some s->i<j->ltB s mid=true)(hhi:∀i s,ks[i]? =some s->j<=i->ltB mid s=true)(hb:∀x∈allT d c',ltB x mid=true)(ha:∀x∈allT d r,ltB x mid=false):SepT (allT d) (insL ks j mid) (insL (ts.set j c') (j+1) r):=by
 have h':=Z2f.1 h;rw[Z2f];intro i c hi x hx p s hs;rw[Y4m ts (by omega)]at hi;rw[Y8n _ _ hj]at hs;have hks:∀(q:Nat) (u:ByteArray),ks[q]? =some u->q<ks.length:=fun q u hq=>(aC.1 hq).1;by_cases e1:i<j
 ·rw[if_pos e1]at hi;have hw:=h' i c hi x hx;by_cases f1:p<j
  ·rw[if_pos f1]at hs;exact hw p s hs
  ·rw[if_neg f1]at hs;have hx1:ltB x mid=true:=by obtain⟨u,hu⟩:∃u,ks[i]? =some u:=⟨_,aB (by omega:i<ks.length)⟩;exact Z1q ((hw i u hu).2 (aF _)) (hlo i u hu e1)
   by_cases f2:p=j
   ·rw[if_pos f2]at hs;injection hs with hs;subst hs;exact⟨fun q=>by omega,fun _=>hx1⟩
   ·rw[if_neg f2]at hs;have:=hw (p-1) s hs;exact⟨fun q=>by omega,fun q=>this.2 (by omega)⟩
 ·rw[if_neg e1]at hi;by_cases e2:i=j
  ·rw[if_pos e2]at hi;injection hi with hi;subst hi;have hw:=hc x hx;by_cases f1:p<j
   ·rw[if_pos f1]at hs;have:=hw p s hs;exact⟨fun q=>this.1 f1,fun q=>by omega⟩
   ·rw[if_neg f1]at hs;by_cases f2:p=j
    ·rw[if_pos f2]at hs;injection hs with hs;subst hs;exact⟨fun q=>by omega,fun _=>hb x hx⟩
    ·rw[if_neg f2]at hs;have:=hw (p-1) s hs;exact⟨fun q=>by omega,fun q=>this.2 (by omega)⟩
  ·rw[if_neg e2]at hi;by_cases e3:i=j+1
   ·rw[if_pos e3]at hi;injection hi with hi;subst hi;have hw:=hd x hx;by_cases f1:p<j
    ·rw[if_pos f1]at hs;have:=hw p s hs;exact⟨fun q=>this.1 f1,fun q=>by omega⟩
    ·rw[if_neg f1]at hs;by_cases f2:p=j
     ·rw[if_pos f2]at hs;injection hs with hs;subst hs;exact⟨fun _=>ha x hx,fun q=>by omega⟩
     ·rw[if_neg f2]at hs;have:=hw (p-1) s hs;exact⟨fun q=>by omega,fun q=>this.2 (by omega)⟩
   ·rw[if_neg e3]at hi;have hw:=h' (i-1) c hi x hx;have hil:i-1<ts.length:=(aC.1 hi).1;by_cases f1:p<j
    ·rw[if_pos f1]at hs;have:=hw p s hs;exact⟨fun q=>this.1 (by omega),fun q=>by omega⟩
    ·rw[if_neg f1]at hs;by_cases f2:p=j
     ·rw[if_pos f2]at hs;injection hs with hs;subst hs;refine⟨fun _=> ?_,fun q=>by omega⟩;obtain⟨u,hu⟩:∃u,ks[j]? =some u:=⟨_,aB (by omega:j<ks.length)⟩;have g1:=(hw j u hu).1 (by omega);exact le_of_lt (Z3q (hhi j u hu (aF _)) g1)
     ·rw[if_neg f2]at hs;have:=hw (p-1) s hs;exact⟨fun q=>this.1 (by omega),fun q=>this.2 (by omega)⟩
def BsT(d:Nat)(t:TT d)(k x:ByteArray):Prop:=x∈sepT d t\/∃z,(z=k\/z∈allT d t)/\ltB z x=true
theorem Y8u{d:Nat}{ks:List ByteArray}{ts:List (TT d)}{j:Nat}{c:TT d}{k x:ByteArray}(h:StrT (sepT d) ks ts)(hc:ts[j]? =some c)(hw:∀x,(x=k\/x∈allT d c)->Y2j ks j x)(hx:BsT d c k x):∀(i:Nat) (s:ByteArray),ks[i]? =some s->i<j->ltB s x=true:=fun i s hs hi=>by
 rcases hx with q | ⟨z,q,hz⟩
 ·exact h j c hc x q i s hs hi
 ·exact Y4l ((hw z q i s hs).1 hi) hz
theorem V0a{d:Nat}{ks:List ByteArray}{ts:List (TT d)}{j:Nat}{c':TT d}(h:StrT (sepT d) ks ts)(hc:∀x∈sepT d c',∀(i:Nat) (s:ByteArray),ks[i]? =some s->i<j->ltB s x=true):StrT (sepT d) ks (ts.set j c'):=by
 intro i c hi x hx;rw[List.getElem?_set]at hi;split at hi
 ·rename_i e
  subst e;split at hi
  ·injection hi with hi;subst hi;exact hc x hx
  ·cases hi
 ·exact h i c hi x hx
theorem U0m{d:Nat}{ks:List ByteArray}{ts:List (TT d)}{j:Nat}{c' r:TT d}{mid:ByteArray}(h:StrT (sepT d) ks ts)(hl:ts.length=ks.length+1)(hj:j<=ks.length)(hc:∀x∈sepT d c',∀(i:Nat) (s:ByteArray),ks[i]? =some s->i<j->ltB s x=true)(hd:∀x∈sepT d r,∀(i:Nat) (s:ByteArray),ks[i]? =some s->i<j->ltB s x=true)
 (hhi:∀i s,ks[i]? =some s->j<=i->ltB mid s=true)(ha:∀x∈sepT d r,ltB mid x=true):StrT (sepT d) (insL ks j mid) (insL (ts.set j c') (j+1) r):=by
 intro i c hi x hx p s hs hpi;rw[Y4m ts (by omega)]at hi;rw[Y8n _ _ hj]at hs;by_cases e1:i<j
 ·rw[if_pos e1]at hi;rw[if_pos (by omega)]at hs;exact h i c hi x hx p s hs hpi
 ·rw[if_neg e1]at hi;by_cases e2:i=j
  ·rw[if_pos e2]at hi;injection hi with hi;subst hi;rw[if_pos (by omega)]at hs;exact hc x hx p s hs (by omega)
  ·rw[if_neg e2]at hi;by_cases e3:i=j+1
   ·rw[if_pos e3]at hi;injection hi with hi;subst hi;by_cases f1:p<j
    ·rw[if_pos f1]at hs;exact hd x hx p s hs f1
    ·rw[if_neg f1,if_pos (by omega)]at hs;injection hs with hs;subst hs;exact ha x hx
   ·rw[if_neg e3]at hi;have hil:i-1<ts.length:=(aC.1 hi).1;by_cases f1:p<j
    ·rw[if_pos f1]at hs;exact h (i-1) c hi x hx p s hs (by omega)
    ·rw[if_neg f1]at hs;by_cases f2:p=j
     ·rw[if_pos f2]at hs;injection hs with hs;subst hs;obtain⟨u,hu⟩:∃u,ks[j]? =some u:=⟨_,aB (by omega:j<ks.length)⟩;exact Z1q (hhi j u hu (aF _)) (h (i-1) c hi x hx j u hu (by omega))
     ·rw[if_neg f2]at hs;exact h (i-1) c hi x hx (p-1) s hs (by omega)
theorem Z5v{d:Nat}{ts:List (TT d)}{j:Nat}{c c':TT d}(hj:ts[j]? =some c)(ha:atT d c'=atT d c):(ts.set j c').map (fun c=>(atT d c:Int))=ts.map (fun c=>(atT d c:Int)):=by
 obtain⟨h,rfl⟩:=aC.1 hj;rw[List.map_set,ha];apply List.ext_getElem
 ·simp
 ·intro i h1 h2;rw[List.getElem_set];split
  ·rename_i e;subst e;simp
  ·rfl
theorem Z4t{α:Type}{l:List α}{i:Nat}{x y:α}(h:y∈l.set i x):y=x\/y∈l:=(List.mem_or_eq_of_mem_set h).symm
theorem Y3z{d:Nat}{t:TT (d+1)}{j:Nat}{c:TT d}(hc:(InT.kids t)[j]? =some c):Z0a (d+1) t=InT.at_ t::(((InT.kids t).take j).flatMap (Z0a d)++Z0a d c++((InT.kids t).drop (j+1)).flatMap (Z0a d)):=by obtain⟨h,rfl⟩:=aC.1 hc;show InT.at_ t::_=_;rw[Z6l (Z0a d) (InT.kids t) h]
theorem Z1c{d:Nat}{t:TT (d+1)}(h:(Z0a (d+1) t).Nodup):(∀c∈InT.kids t,InT.at_ t∉Z0a d c/\(Z0a d c).Nodup)/\∀(i j:Nat) (c e:TT d),(InT.kids t)[i]? =some c->(InT.kids t)[j]? =some e->i≠j->∀b∈Z0a d c,b∉Z0a d e:=by
 have h':(InT.at_ t::(InT.kids t).flatMap (Z0a d)).Nodup:=h;rw[List.nodup_cons]at h';obtain⟨h1,h2⟩:=h';rw[List.mem_flatMap]at h1;unfold List.Nodup at h2;rw[List.pairwise_flatMap]at h2;refine⟨fun c hc=>⟨fun q=>h1 ⟨c,hc,q⟩,h2.1 c hc⟩,fun i j c e hc he hij b hb hb'=> ?_⟩;obtain⟨hi,rfl⟩:=aC.1 hc;obtain⟨hj,rfl⟩:=aC.1 he;have hp:=List.pairwise_iff_getElem.1 h2.2;rcases Nat.lt_or_gt_of_ne hij with q | q
 ·exact hp i j hi hj q b hb b hb' rfl
 ·exact hp j i hj hi q b hb' b hb rfl
theorem Y8j{S:StoreD}{d:Nat}{ts:List (TT d)}(h:∀c∈ts,onT S d c)(hm:S.head.pages<=1024):∀c∈ts.map (fun c=>(atT d c:Int)),0<=c/\c<65536:=by intro c hc;obtain⟨x,hx,rfl⟩:=List.mem_map.1 hc;have:=(Z0l d x (h x hx) _ (Z0r d x)).2.1;exact⟨by omega,by omega⟩
abbrev PutL(d:Nat)(S:StoreD)(t:TT d)(k v:ByteArray)(S':StoreD)(t':TT d)(o:Option (ByteArray×TT d))(F:List Nat):Prop:=
 StepL d (d+1) S (fun b=>b∈Z0a d t) (fun x=>x=k\/x∈allT d t) (BsT d t k) (Z0a d t) (atT d t) (Z6u (Z0f d t) k v) S' t' o F
theorem U1p{d:Nat}{t:TT (d+1)}{c:TT d}(hc:c∈InT.kids t){k x:ByteArray}(h:BsT d c k x):BsT (d+1) t k x:=by
 rcases h with q | ⟨z,q,hz⟩
 ·exact .inl (List.mem_append_right _ (List.mem_flatMap.2 ⟨c,hc,q⟩))
 ·exact .inr ⟨z,q.imp_right (fun q=>List.mem_append_right _ (List.mem_flatMap.2 ⟨c,hc,q⟩)),hz⟩
theorem Y8l{d:Nat}{t:TT d}(h:okT d t){k:ByteArray}(hk:Z2o k):∀x,x=k\/x∈allT d t->Z2o x:=fun x q=>q.elim (fun e=>e▸hk) (fun q=>Y8z d t h x q)
theorem U0f{d:Nat}{S S1:StoreD}{t:TT (d+1)}{k v:ByteArray}{c c':TT d}{F1:List Nat}(hf:Fm S)(hon:onT S (d+1) t)(hok:okT (d+1) t)(hk:Z2o k)(hnd:(Z0a (d+1) t).Nodup)(hc:(InT.kids t)[Z0h (InT.keys t) k]? =some c)(h:PutL d S c k v S1 c' none F1):
  PutL (d+1) S t k v S1 (InT.mk (InT.at_ t) (InT.keys t) ((InT.kids t).set (Z0h (InT.keys t) k) c')) none F1:=by
 obtain⟨hj,hce⟩:=aC.1 hc;have hcm:c∈InT.kids t:=hce▸List.getElem_mem hj;obtain⟨n1,n2⟩:=Z1c hnd;obtain⟨k1,k2,k3,k4,k5,k6⟩:=hok;have hw:∀x∈allT d c',Y2j (InT.keys t) (Z0h (InT.keys t) k) x:=fun x hx=>by
  rcases h.all x hx with rfl | q
  ·exact Y0t k1 _
  ·exact Z2f.1 k5 _ _ hc x q
 have hwc:∀x,(x=k\/x∈allT d c)->Y2j (InT.keys t) (Z0h (InT.keys t) k) x:=fun x q=>by
  rcases q with rfl | q
  ·exact Y0t k1 _
  ·exact Z2f.1 k5 _ _ hc x q
 have hpg:∀b∈Z0a d c,b∈Z0a (d+1) t:=fun b hb=>by show b∈InT.at_ t::_;exact List.mem_cons_of_mem _ (List.mem_flatMap.2 ⟨c,hcm,hb⟩)
 have hunF:∀b,Z0y S b=true->b∉F1:=fun b hb q=>by rw[(h.fresh b q).1]at hb;cases hb
 refine⟨h.stp.mono hpg,h.nd,h.fresh,Nat.le_succ_of_le h.len,rfl,⟨?_,fun e he=> ?_⟩,⟨k1,by show((InT.kids t).set _ _).length=_;rw[List.length_set];exact k2,k3,fun e he=> ?_,V0h k5 hw,V0a k6 (fun x hx=>Y8u k6 hc hwc (h.sep x hx))⟩,?_,?_,fun x hx=> ?_,fun x hx=> ?_,(fun mid r q=>by cases q)⟩
 ·have e1:Z0c (d+1) (InT.mk (InT.at_ t) (InT.keys t) ((InT.kids t).set (Z0h (InT.keys t) k) c'))=Z0c (d+1) t:=by show NodeD.mk false _ [] _=NodeD.mk false _ [] _;rw[Z5v hc h.at_]
  rw[e1];exact hon.1.stp h.stp (n1 c hcm).1 (hunF _ hon.1.given.2.2) (by simp)
 ·rcases Z4t he with rfl | he
  ·exact h.on
  ·obtain⟨i,hi,rfl⟩:=List.mem_iff_getElem.1 he;by_cases e1:i=Z0h (InT.keys t) k
   ·subst e1;obtain⟨q,hq,he'⟩:=List.mem_iff_getElem.1 ‹_∈(InT.kids t).set _ _›;rw[List.getElem_set]at he';by_cases e2:Z0h (InT.keys t) k=q
    ·rw[if_pos e2]at he';rw[<-he'];exact h.on
    ·rw[if_neg e2]at he';rw[<-he'];have hq2:q<(InT.kids t).length:=by rw[List.length_set]at hq;exact hq
     refine Z7l h.stp d _ (hon.2 _ (List.getElem_mem hq2)) (fun b q'=>⟨n2 _ _ _ _ (aB hq2) hc (fun e=>e2 e.symm) b q',hunF b (Z0l d _ (hon.2 _ (List.getElem_mem hq2)) b q').2.2,by simp⟩)
   ·refine Z7l h.stp d _ (hon.2 _ he) (fun b q'=>⟨n2 _ _ _ _ (aB hi) hc e1 b q',hunF b (Z0l d _ (hon.2 _ he) b q').2.2,by simp⟩)
 ·rcases Z4t he with rfl | he
  ·exact h.ok
  ·exact k4 e he
 ·show((InT.at_ t::((InT.kids t).set _ c').flatMap (Z0a d))++ []).Perm (Z0a (d+1) t++F1);rw[Y3z hc,List.append_nil,Z7s (Z0a d) _ hj,List.cons_append,List.perm_cons];have hp:(Z0a d c').Perm (Z0a d c++F1):=by have:=h.pages;rwa [Z8v,List.append_nil]at this
  generalize ((InT.kids t).take (Z0h (InT.keys t) k)).flatMap (Z0a d)=A at *;generalize ((InT.kids t).drop (Z0h (InT.keys t) k+1)).flatMap (Z0a d)=C at *;have p1:(A++Z0a d c'++C).Perm (A++(Z0a d c++F1)++C):=(hp.append_left A).append_right C;refine p1.trans ?_;rw[aG,aG,aG,aG];exact(List.perm_append_comm.append_left _).append_left _
 ·have hl:Z0f d c'=Z6u (Z0f d c) k v:=by have:=h.list;rwa [X7s,List.append_nil]at this
  obtain⟨a1,a2⟩:=Y7a (t:=t) ⟨k1,k2,k3,k4,k5,k6⟩ k;show((InT.kids t).set _ c').flatMap (Z0f d)++ []=Z6u ((InT.kids t).flatMap (Z0f d)) k v;rw[List.append_nil,Z7s (Z0f d) _ hj,Z6l (Z0f d) (InT.kids t) hj,X0x a1 a2,hce,hl]
 ·have hx':x∈InT.keys t++((InT.kids t).set _ c').flatMap (allT d):=hx;show x=k\/x∈InT.keys t++(InT.kids t).flatMap (allT d);rw[List.mem_append,List.mem_flatMap]at hx' ⊢;rcases hx' with q | ⟨e,q1,q2⟩
  ·exact .inr (.inl q)
  ·rcases Z4t q1 with rfl | q1
   ·rcases h.all x q2 with q | q
    ·exact .inl q
    ·exact .inr (.inr ⟨c,hcm,q⟩)
   ·exact .inr (.inr ⟨e,q1,q2⟩)
 ·have hx':x∈InT.keys t++((InT.kids t).set _ c').flatMap (sepT d):=hx;rw[List.mem_append,List.mem_flatMap]at hx';rcases hx' with q | ⟨e,q1,q2⟩
  ·exact .inl (List.mem_append_left _ q)
  ·rcases Z4t q1 with rfl | q1
   ·exact U1p hcm (h.sep x q2)
   ·exact .inl (List.mem_append_right _ (List.mem_flatMap.2 ⟨e,q1,q2⟩))
theorem Z8m{d:Nat}(t:TT (d+1)):Z0n (Z0c (d+1) t)=2+2*(InT.kids t).length+Z0o (InT.keys t):=by unfold Z0n;show 2+2*((InT.kids t).map _).length+Z0o (InT.keys t)+Z0o []=_;rw[List.length_map];rfl
theorem Y9k{d:Nat}{S S1:StoreD}{t:TT (d+1)}{k v:ByteArray}{c c' r:TT d}{mid:ByteArray}{F1:List Nat}(hf:Fm S)(hon:onT S (d+1) t)(hok:okT (d+1) t)(hk:Z2o k)(hnd:(Z0a (d+1) t).Nodup)(hc:(InT.kids t)[Z0h (InT.keys t) k]? =some c)(h:PutL d S c k v S1 c' (some (mid,r)) F1):
  ∃L:TT (d+1),L=InT.mk (InT.at_ t) (insL (InT.keys t) (Z0h (InT.keys t) k) mid) (insL ((InT.kids t).set (Z0h (InT.keys t) k) c') (Z0h (InT.keys t) k+1) r)/\Z0s S1 (InT.at_ L)/\okT (d+1) L/\NodeFit (Z0c (d+1) L)/\(∀e∈InT.kids L,onT S1 d e)/\(∀e∈InT.kids L,InT.at_ L∉Z0a d e)/\
   (Z0a (d+1) L).Perm (Z0a (d+1) t++F1)/\Z0f (d+1) L=Z6u (Z0f (d+1) t) k v/\(∀x∈allT (d+1) L,x=k\/x∈allT (d+1) t)/\∀x∈sepT (d+1) L,BsT (d+1) t k x:=by
 obtain⟨hj,hce⟩:=aC.1 hc;have hcm:c∈InT.kids t:=hce▸List.getElem_mem hj;obtain⟨n1,n2⟩:=Z1c hnd;have hok':=hok;obtain⟨k1,k2,k3,k4,k5,k6⟩:=hok;have hjk:=Z4o (k:=k) k1;have hR:=h.right mid r rfl;have hwc:∀x,(x=k\/x∈allT d c)->Y2j (InT.keys t) (Z0h (InT.keys t) k) x:=fun x q=>by
  rcases q with rfl | q
  ·exact Y0t k1 _
  ·exact Z2f.1 k5 _ _ hc x q
 have hunF:∀b,Z0y S b=true->b∉F1:=fun b hb q=>by rw[(h.fresh b q).1]at hb;cases hb
 obtain⟨z,hz⟩:=hR.some;have hlo:∀i s,(InT.keys t)[i]? =some s->i<Z0h (InT.keys t) k->ltB s mid=true:=fun i s hs hi=>Y4l ((hwc z (h.all z hz) i s hs).1 hi) (hR.below z hz);have hhi:∀i s,(InT.keys t)[i]? =some s->Z0h (InT.keys t) k<=i->ltB mid s=true:=fun i s hs hi=>(hwc mid hR.key i s hs).2 hi;have hmk:Z2o mid:=Y8l (k4 c hcm) hk mid hR.key;have hold:∀(i:Nat) (e:TT d),(InT.kids t)[i]? =some e->i≠Z0h (InT.keys t) k->onT S1 d e/\e∈InT.kids t:=fun i e he hne=>by have hem:e∈InT.kids t:=List.mem_of_getElem? he;refine⟨Z7l h.stp d e (hon.2 e hem) (fun b q'=>⟨n2 _ _ _ _ he hc hne b q',hunF b (Z0l d e (hon.2 e hem) b q').2.2,by simp⟩),hem⟩
 have hkids:∀e,e∈insL ((InT.kids t).set (Z0h (InT.keys t) k) c') (Z0h (InT.keys t) k+1) r->e=c'\/e=r\/∃i,(InT.kids t)[i]? =some e/\i≠Z0h (InT.keys t) k:=fun e he=>by
  obtain⟨i,hi⟩:=List.mem_iff_getElem?.1 he;rw[Y4m _ hj]at hi;by_cases e1:i<Z0h (InT.keys t) k
  ·rw[if_pos e1]at hi;exact .inr (.inr ⟨i,hi,by omega⟩)
  ·rw[if_neg e1]at hi;by_cases e2:i=Z0h (InT.keys t) k
   ·rw[if_pos e2]at hi;injection hi with hi;exact .inl hi.symm
   ·rw[if_neg e2]at hi;by_cases e3:i=Z0h (InT.keys t) k+1
    ·rw[if_pos e3]at hi;injection hi with hi;exact .inr (.inl hi.symm)
    ·rw[if_neg e3]at hi;exact .inr (.inr ⟨i-1,hi,by omega⟩)
 have hpp:(Z0a d c'++Z0a d r).Perm (Z0a d c++F1):=h.pages;have hmem:∀b,b∈Z0a d c'\/b∈Z0a d r->b∈Z0a d c\/b∈F1:=fun b q=>List.mem_append.1 (hpp.mem_iff.1 (List.mem_append.2 q));have honK:∀e∈insL ((InT.kids t).set (Z0h (InT.keys t) k) c') (Z0h (InT.keys t) k+1) r,onT S1 d e:=fun e he=>by
  rcases hkids e he with rfl | rfl | ⟨i,hi,hne⟩
  ·exact h.on
  ·exact hR.on
  ·exact(hold i e hi hne).1
 have hokL:okT (d+1) (InT.mk (InT.at_ t) (insL (InT.keys t) (Z0h (InT.keys t) k) mid) (insL ((InT.kids t).set (Z0h (InT.keys t) k) c') (Z0h (InT.keys t) k+1) r)):=by
  refine⟨V6b k1 hjk hlo hhi,?_,fun x hx=> ?_,fun e he=> ?_,U0n k5 k2 k1 hjk (fun x hx=>hwc x (h.all x hx)) (fun x hx=>hwc x (hR.all x hx)) hlo hhi hR.below hR.above,U0m k6 k2 hjk (fun x hx=>Y8u k6 hc hwc (h.sep x hx)) (fun x hx=>Y8u k6 hc hwc (hR.sep x hx)) hhi hR.sabove⟩
  ·show(insL ((InT.kids t).set _ c') _ r).length=(insL (InT.keys t) _ mid).length+1;rw[Z1b,Z1b,List.length_set,k2]
  ·rcases Z8j hx with rfl | hx
   ·exact hmk
   ·exact k3 x hx
  ·rcases hkids e he with rfl | rfl | ⟨i,hi,hne⟩
   ·exact h.ok
   ·exact hR.ok
   ·exact k4 e (List.mem_of_getElem? hi)
 have hat:Z0s S1 (InT.at_ t):=h.stp.given hon.1.given (by simp);have hsz:=hon.1.small;refine⟨_,rfl,hat,hokL,⟨⟨fun x hx=> ?_,fun x hx=>by simp[Z0c]at hx,?_,?_,(fun q=>by cases q),fun _=>⟨rfl,?_⟩⟩,fun x hx=>(hokL.2.2.1 x hx).2,fun x hx=>by simp[Z0c]at hx,?_⟩,honK,fun e he=> ?_,?_,?_,fun x hx=> ?_,fun x hx=> ?_⟩
 ·have:=(hokL.2.2.1 x hx).2;omega
 ·exact Y8j honK (by rw[h.stp.head];exact hf.most)
 ·have h9:=Z8g (Z0c (d+1) t);have h8:(Z0c (d+1) t).keys.length=(InT.keys t).length:=rfl;show(insL (InT.keys t) _ mid).length<=255;rw[Z1b];omega
 ·show((insL ((InT.kids t).set _ c') _ r).map _).length=(insL (InT.keys t) _ mid).length+1;rw[List.length_map,Z1b,Z1b,List.length_set,k2]
 ·rw[Z8m]at hsz;refine Nat.le_trans (Nat.le_of_eq (Z8m (d:=d) (InT.mk (InT.at_ t) (insL (InT.keys t) (Z0h (InT.keys t) k) mid) (insL ((InT.kids t).set (Z0h (InT.keys t) k) c') (Z0h (InT.keys t) k+1) r)))) ?_;show 2+2*(insL ((InT.kids t).set _ c') _ r).length+Z0o (insL (InT.keys t) _ mid)<=291;rw[Z1b,Y4n,List.length_set];have:=hmk.2;omega
 ·rcases hkids e he with rfl | rfl | ⟨i,hi,hne⟩
  ·intro q;rcases hmem _ (.inl q)with r | r
   ·exact(n1 c hcm).1 r
   ·exact hunF _ hon.1.given.2.2 r
  ·intro q;rcases hmem _ (.inr q)with r | r
   ·exact(n1 c hcm).1 r
   ·exact hunF _ hon.1.given.2.2 r
  ·exact(n1 e (List.mem_of_getElem? hi)).1
 ·show(InT.at_ t::(insL ((InT.kids t).set _ c') _ r).flatMap (Z0a d)).Perm (Z0a (d+1) t++F1);rw[Y3z hc,Y6l (Z0a d) _ hj,List.cons_append,List.perm_cons];generalize ((InT.kids t).take (Z0h (InT.keys t) k)).flatMap (Z0a d)=A at *;generalize ((InT.kids t).drop (Z0h (InT.keys t) k+1)).flatMap (Z0a d)=C at *;refine((hpp.append_left A).append_right C).trans ?_;rw[aG,aG,aG,aG];exact(List.perm_append_comm.append_left _).append_left _
 ·have hl:Z0f d c'++Z0f d r=Z6u (Z0f d c) k v:=h.list;obtain⟨a1,a2⟩:=Y7a (t:=t) hok' k;show(insL ((InT.kids t).set _ c') _ r).flatMap (Z0f d)=Z6u ((InT.kids t).flatMap (Z0f d)) k v;rw[Y6l (Z0f d) _ hj,Z6l (Z0f d) (InT.kids t) hj,X0x a1 a2,hce,hl]
 ·have hx':x∈insL (InT.keys t) _ mid++(insL ((InT.kids t).set _ c') _ r).flatMap (allT d):=hx;show x=k\/x∈InT.keys t++(InT.kids t).flatMap (allT d);have hin:∀y,y=k\/y∈allT d c->y=k\/y∈InT.keys t++(InT.kids t).flatMap (allT d):=fun y q=>by
   rcases q with q | q
   ·exact .inl q
   ·exact .inr (List.mem_append_right _ (List.mem_flatMap.2 ⟨c,hcm,q⟩))
  rw[List.mem_append,List.mem_flatMap]at hx';rcases hx' with q | ⟨e,q1,q2⟩
  ·rcases Z8j q with rfl | q
   ·exact hin _ hR.key
   ·exact .inr (List.mem_append_left _ q)
  ·rcases hkids e q1 with rfl | rfl | ⟨i,hi,hne⟩
   ·exact hin _ (h.all x q2)
   ·exact hin _ (hR.all x q2)
   ·exact .inr (List.mem_append_right _ (List.mem_flatMap.2 ⟨e,List.mem_of_getElem? hi,q2⟩))
 ·have hx':x∈insL (InT.keys t) _ mid++(insL ((InT.kids t).set _ c') _ r).flatMap (sepT d):=hx;rw[List.mem_append,List.mem_flatMap]at hx';rcases hx' with q | ⟨e,q1,q2⟩
  ·rcases Z8j q with rfl | q
   ·refine .inr ⟨z,(h.all z hz).imp_right (fun q=>List.mem_append_right _ (List.mem_flatMap.2 ⟨c,hcm,q⟩)),hR.below z hz⟩
   ·exact .inl (List.mem_append_left _ q)
  ·rcases hkids e q1 with rfl | rfl | ⟨i,hi,hne⟩
   ·exact U1p hcm (h.sep x q2)
   ·exact U1p hcm (hR.sep x q2)
   ·exact .inl (List.mem_append_right _ (List.mem_flatMap.2 ⟨e,List.mem_of_getElem? hi,q2⟩))
theorem U0e{d:Nat}{S S1 S':StoreD}{t t':TT (d+1)}{k v:ByteArray}{c c' r:TT d}{mid:ByteArray}{o:Option (ByteArray×TT (d+1))}{F1:List Nat}(hf:Fm S)(hon:onT S (d+1) t)(hok:okT (d+1) t)(hk:Z2o k)(hnd:(Z0a (d+1) t).Nodup)(hc:(InT.kids t)[Z0h (InT.keys t) k]? =some c)(h:PutL d S c k v S1 c' (some (mid,r)) F1)
 (hcut:V5a d S1 (InT.mk (InT.at_ t) (insL (InT.keys t) (Z0h (InT.keys t) k) mid) (insL ((InT.kids t).set (Z0h (InT.keys t) k) c') (Z0h (InT.keys t) k+1) r)) S' t' o):
  ∃F,PutL (d+1) S t k v S' t' o F:=by
 obtain⟨L,hL,g1,g2,g3,g4,g5,g6,g7,g8,g9⟩:=Y9k hf hon hok hk hnd hc h;rw[<-hL]at hcut;have hLa:InT.at_ L=InT.at_ t:=by rw[hL]
 have hf1:=hf.stp h.stp (fun b q=>by cases q);obtain⟨F2,q⟩:=V4m hcut hf1 g1 g2 g3 g4 g5;obtain⟨hj,hce⟩:=aC.1 hc;have hcm:c∈InT.kids t:=hce▸List.getElem_mem hj;have hpg:∀b∈Z0a d c,b∈Z0a (d+1) t:=fun b hb=>by show b∈InT.at_ t::_;exact List.mem_cons_of_mem _ (List.mem_flatMap.2 ⟨c,hcm,hb⟩)
 have hfr:∀b∈F2,Z0y S b=false/\b∉F1:=fun b hb=>by
  have h1:=(q.fresh b hb).1;have h2:=h.stp.used b;constructor
  ·cases e:Z0y S b with
   | false=>rfl
   | true=>rw[h2.2 ⟨.inl e,by simp⟩]at h1;cases h1
  ·intro e;rw[h2.2 ⟨.inr e,by simp⟩]at h1;cases h1
 have hst:=h.stp.trans (Q:=fun b=>b=InT.at_ L) q.stp (fun b _=>by simp) (fun b r=> .inr (.inr r));refine⟨F1++F2,⟨?_,?_,fun b hb=> ?_,?_,q.at_.trans hLa,q.on,q.ok,?_,?_,fun x hx=>g8 x (q.all x hx),fun x hx=>g9 x (q.sep x hx),fun m r' e=> ?_⟩⟩
 ·refine hst.mono (fun b r=> ?_);rcases r with r | r
  ·exact hpg b r
  ·rw[r,hLa];show _∈InT.at_ t::_;exact List.mem_cons_self
 ·rw[List.nodup_append];exact⟨h.nd,q.nd,fun a ha b hb e=>by subst e;exact(hfr a hb).2 ha⟩
 ·rcases List.mem_append.1 hb with hb | hb
  ·exact h.fresh b hb
  ·have:=q.fresh b hb;rw[h.stp.head]at this;exact⟨(hfr b hb).1,this.2⟩
 ·rw[aA];have:=h.len;have:=q.len;omega
 ·refine q.pages.trans ?_;rw[<-aG];exact g6.append_right F2
 ·rw[q.list,g7]
 ·have:=q.right m r' e;exact⟨this.on,this.ok,g8 _ this.key,this.below,this.above,fun x hx=>g8 x (this.all x hx),this.some,fun x hx=>g9 x (this.sep x hx),this.sabove⟩
theorem Z5i:∀(d:Nat) {S S':StoreD} {t t':TT d} {k v:ByteArray} {o:Option (ByteArray×TT d)},PutR d S t k v S' t' o->Fm S->onT S d t->okT d t->Z2o k->v.size<=80->(Z0a d t).Nodup->∃F,PutL d S t k v S' t' o F
 | 0,S,S',t,t',k,v,o,h,hf,hon,hok,hk,hv,hnd=>by
   obtain⟨F,q⟩:=V4n h hf (PageN.given hon) (X4p hok hk hv) (X0f hon hok hk hv);have hall:∀x,x∈allT 0 (Z6s t k v)->x=k\/x∈allT 0 t:=fun x hx=>Y8a.1 x hx;refine⟨F,⟨q.stp.mono (fun b r=>by rw[r];show _∈ [_];exact List.mem_cons_self),q.nd,q.fresh,q.len,q.at_,q.on,q.ok,q.pages,q.list.trans (Y6f hok k v),fun x hx=>hall x (q.all x hx),(fun x hx=>by cases t';cases hx),fun m r e=> ?_⟩⟩;have:=q.right m r e;exact⟨this.on,this.ok,hall _ this.key,this.below,this.above,fun x hx=>hall x (this.all x hx),this.some,(fun x hx=>by cases hx),this.sabove⟩
 | d+1,S,S',t,t',k,v,o,h,hf,hon,hok,hk,hv,hnd=>by
   obtain⟨c,hc,S1,c',o1,h1,h2⟩:=h;have hcm:c∈InT.kids t:=List.mem_of_getElem? hc;obtain⟨F1,q⟩:=Z5i d h1 hf (hon.2 c hcm) (hok.2.2.2.1 c hcm) hk hv ((Z1c hnd).1 c hcm).2;cases o1 with
   | none=>
     obtain⟨rfl,rfl,rfl⟩:=h2;exact⟨F1,U0f hf hon hok hk hnd hc q⟩
   | some x=>
     obtain⟨mid,r⟩:=x;exact U0e hf hon hok hk hnd hc q h2
end
end Go.Proofs.YtohaldfnmgcofaaGreat
