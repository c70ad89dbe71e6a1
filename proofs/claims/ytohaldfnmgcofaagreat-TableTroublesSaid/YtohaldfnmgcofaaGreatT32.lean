/- What a statement of layer 13 finds in a table: as many operations as are asked for, out of those under a key. Conditions: a table's trees. -/
import Derived.Test.YtohaldfnmgcofaaGreatT31
set_option maxRecDepth 100000
set_option maxHeartbeats 4000000
set_option linter.unusedSimpArgs false
set_option linter.unusedVariables false
namespace Go.Proofs.YtohaldfnmgcofaaGreat
section
open Go.RowKit
theorem X2z{A:Option Addr}{n c tb p:Nat}{ts:Nat->Nat}{F:Nat->Prop}{S:StoreD}{Ts:Nat->TrD}{l all:List OpD}{k:Nat}(way most:Nat)(fl:List Int)(w:World)
 (ht:TblAt w tb p ts F)(hp:PagerAt w p F S)(hT:Tab S Ts (fun _=>l))(hd:∀i,i<5->depT (Ts i)<=31)(hw:way<5)
 (hs:Sl w 1 (fun x cs=>cs=encN x) (.slice A n c) fl)(hl:∀x∈fl,In64 x)(h4:fl.length<=4)(hf:Finds Ts way (bts (keyL fl)) l all k)(hal:all.length<=100000)(hm:0<most):
  cQ 74 #[tp tb,.int .i64 (way:Nat),.slice A n c,.int .i64 (most:Nat)] w fun e w'=>
   ∃(A':Option Addr) (c' j:Nat) (F2:Nat->Prop),e= .returned (.slice A' j c')/\OwnL w' 0 73 11 OpD.cells (.slice A' j c') (all.take j)/\j<=k/\j<=all.length/\((j=k\/most<=j)/\j<=most)/\TblAt w' tb p ts F2/\PagerAt w' p F2 S/\Keeps F F2 w w':=by
 have cF:Hid (∀W,cQ 133 #[tp tb,.int .i64 (way:Nat),.slice A n c] W (U2b (A:=A) (n:=n) (c:=c) (some ⟨tb,0,none⟩) (way:Nat) W)):=fun W=>V8m _ _ W;obtain⟨W0,hW0⟩:∃W0,(w.alloc (.cells #[.int .i64 (most:Nat)] 3)).alloc (.cells #[.slice none 0 0] 69)=W0:=⟨_,rfl⟩;have HX0:Hid (Ext w W0):=by unfold Hid;rw[<-hW0];exact(Ext.alloc _ _).trans (Ext.alloc _ _)
 have HR0:Hid (Row1 W0 (w.heap.size+1) 69 [.slice none 0 0]):=by unfold Hid;rw[<-hW0];exact Row1.made' (by simp) _ _
 have HR9:Hid (Row1 W0 w.heap.size 3 [.int .i64 (most:Nat)]):=by unfold Hid;rw[<-hW0];exact(Row1.made w _ _).alloc _
 have hs0:W0.heap.size=w.heap.size+2:=by rw[<-hW0];simp
 have HLT:Hid (tb<w.heap.size/\∀j,j<5->ts j<w.heap.size):=⟨ht.row.lt,fun j hj=>(ht.tree j hj).lt⟩;have cC:Hid (∀(bt bw bf:Nat) (W:World),Ext W0 W->W0.heap.size<=bt->W0.heap.size<=bw->Row1 W bt 66 [tp tb]->Row1 W bw 3 [.int .i64 (way:Nat)]->Row1 W bf 80 [.slice A n c]->
   cQ 178 #[.func (.func 134) #[] #[.pointer (some ⟨w.heap.size+1,0,none⟩),tp w.heap.size],tp bf,tp bt,tp bw] W fun e w'=>
    (∃v,e= .returned v)/\∃(A':Option Addr) (c' j:Nat) (F2:Nat->Prop),Row1 w' (w.heap.size+1) 69 [.slice A' j c']/\OwnL w' 0 73 11 OpD.cells (.slice A' j c') (all.take j)/\j<=k/\j<=all.length/\((j=k\/most<=j)/\j<=most)/\TblAt w' tb p ts F2/\PagerAt w' p F2 S/\Keeps F F2 w w'):=fun bt bw bf W hW hbt hbw h1 h2 h3=>by
  have hx:Ext w W:=HX0.out.trans hW;have hz:=HX0.out.size;have htF:TblAt W tb p ts (fun i=>F i/\i<w.heap.size):=TblAt.ext (F:=fun i=>F i/\i<w.heap.size) ⟨ht.row,ht.tree,fun q=>ht.out q.1,fun j hj q=>ht.outs j hj q.1⟩ hx;have hpF:PagerAt W p (fun i=>F i/\i<w.heap.size) S:=PagerAt.ext (F:=fun i=>F i/\i<w.heap.size) hp.shrink hx;have hzW:=hW.size;refine(V3t (bl:=w.heap.size+1) (bm:=w.heap.size) (Gc:=fun i=>i=w.heap.size+1\/i=w.heap.size) (most:=(most:Int)) way fl W htF hpF hT hd hw h1 h2 h3 (fun q=>by have:=q.2;omega) (fun q=>by have:=q.2;omega) (hs.ext hx) hl h4 hf hal (by omega)
   ⟨⟨none,0,OwnL.nil _ _ _ _ _,HR0.out.ext hW HR0.out.lt,fun k q=>by cases q⟩,HR9.out.ext hW HR9.out.lt,.inl rfl,.inr rfl⟩ (fun i q=> ?_)).mono ?_
  ·have l1:=HLT.out.1;have l2:=HLT.out.2;refine⟨by omega,fun r=>by have:=r.2;omega,by omega,by omega,by omega,fun j hj e=>by have:=l2 j hj;omega⟩
  ·rintro e w' ⟨hv,F2,G2,j,hjk,hja,hjm,ht2,hp2,hfj,hk2⟩;obtain⟨A',c',ho,hr,_⟩:=hfj.list;have hlen:(all.take j).length=j:=by rw[aD];omega
   rw[hlen]at ho hr;refine⟨hv,A',c',j,F2,hr,ho,hjk,hja,by omega,ht2,hp2,⟨(Only.of hx).trans hk2.only (fun i q=> ?_),fun i q=> ?_⟩⟩
   ·rcases q with q | q | q
    ·exact .inl q.1
    ·exact .inr (by omega)
    ·exact .inr (by omega)
   ·rcases hk2.new i (.inl q)with (r | r | r) | r
    ·exact .inl r.1
    ·exact .inr (by omega)
    ·exact .inr (by omega)
    ·exact .inr (by omega)
 clear ht hp hT hd hs hl hf hs0;have hnf:=fun(W:World) (ya yb:Array Value)=>V0i 178 ya yb W;have c9:W0.cell? ⟨w.heap.size,0,none⟩=some (.int .i64 (most:Nat)):=HR9.out.cell 0;have q1:decide ((most:Int)<=0)=false:=aM;have q2:¬(most:Int)<=0:=by omega
 go_enter Tryz.func74,Tryz.ntmps74;go_upto_region 2 with fail;clear hW0;go_wp2_with (first
  | (go_at_call 133;(with_reducible refine(cF.out _).mono ?_);clear cF;rintro e w1 ⟨bt,bw,bf,rfl,hx1,hb1,hb2,hb3,hr1,hr2,hr3⟩;have HX1:=hD hx1;have HB1:=hD hb1;have HB2:=hD hb2;have HR1:=hD hr1;have HR2:=hD hr2;have HR3:=hD hr3;clear hx1 hr1 hr2 hr3 hb1 hb2 hb3)
  | (go_at_call 178;(with_reducible refine(cC.out _ _ _ _ HX1.out HB1.out HB2.out HR1.out HR2.out HR3.out).mono ?_);clear cC;rintro e w2 ⟨⟨v2,rfl⟩,A2,c2,j2,F2,hr0,ho2,hj1,hj2,hj3,ht2,hp2,hk2⟩;have HFIN:Hid (OwnL w2 0 73 11 OpD.cells (.slice A2 j2 c2) (all.take j2)/\j2<=k/\j2<=all.length/\((j2=k\/most<=j2)/\j2<=most)/\TblAt w2 tb p ts F2/\PagerAt w2 p F2 S/\Keeps F F2 w w2):=⟨ho2,hj1,hj2,hj3,ht2,hp2,hk2⟩;have c0:w2.cell? ⟨w.heap.size+1,0,none⟩=some (.slice A2 j2 c2):=hr0.cell 0;clear hr0 ho2 hj1 hj2 hj3 ht2 hp2 hk2))
 go_ret;exact⟨A2,c2,j2,F2,rfl,HFIN.out⟩
theorem U2q{x y:UInt8}(h1:¬y<x)(h2:¬x<y):y=x:=by have a:=UInt8.not_lt.1 h1;have b:=UInt8.not_lt.1 h2;exact UInt8.le_antisymm b a
theorem Y3w:∀(p a b:List UInt8),p <+: b->¬a<p->¬b<a->p <+: a
 | [],a,_,_,_,_=>List.nil_prefix
 | x::p,[],_,_,h,_=>absurd (List.nil_lt_cons x p) h
 | x::p,y::a,[],h,_,_=>absurd h (by simp)
 | x::p,y::a,z::b,h,h1,h2=>by obtain⟨rfl,hp⟩:=List.cons_prefix_cons.1 h;have e1:¬y<x:=fun q=>h1 (List.cons_lt_cons_iff.2 (.inl q));have e2:¬x<y:=fun q=>h2 (List.cons_lt_cons_iff.2 (.inl q));obtain rfl:=U2q e1 e2;exact List.cons_prefix_cons.2 ⟨rfl,Y3w p a b hp (fun q=>h1 (List.cons_lt_cons_iff.2 (.inr ⟨rfl,q⟩))) (fun q=>h2 (List.cons_lt_cons_iff.2 (.inr ⟨rfl,q⟩)))⟩
theorem Y6g:∀(p a:List UInt8),p <+: a->¬a<p
 | [],a,_,h=>absurd h (List.not_lt_nil a)
 | x::p,[],h,_=>absurd h (by simp)
 | x::p,y::a,h,q=>by
   obtain⟨rfl,hp⟩:=List.cons_prefix_cons.1 h;rcases List.cons_lt_cons_iff.1 q with r | ⟨_,r⟩
   ·exact absurd r (UInt8.lt_irrefl x)
   ·exact Y6g p a hp r
theorem Y3f(a b:List UInt8):Z3b (bts a) (bts b)=true↔b <+: a:=by rw[Y0w,List.isPrefixOf_iff_prefix]
theorem X2p(a b:List UInt8):ltB (bts a) (bts b)=true↔a<b:=by rw[Z6i,Z1r,Z1r]
theorem Y7l{a b c:List UInt8}(h1:Z3b (bts c) (bts a)=true)(h2:ltB (bts b) (bts a)=false)(h3:ltB (bts c) (bts b)=false):Z3b (bts b) (bts a)=true:=
 (Y3f _ _).2 (Y3w a b c ((Y3f _ _).1 h1) (fun q=>by rw[(X2p b a).2 q]at h2;cases h2) (fun q=>by rw[(X2p c b).2 q]at h3;cases h3))
theorem X6o{a c:List UInt8}(h1:Z3b (bts c) (bts a)=true):ltB (bts c) (bts a)=false:=by
 cases h:ltB (bts c) (bts a)with
 | false=>rfl
 | true=>exact absurd ((X2p c a).1 h) (Y6g a c ((Y3f _ _).1 h1))
section
variable {S:StoreD} {Ts:Nat->TrD} {l all:List OpD} {way k:Nat} {fr:List UInt8}
theorem Finds.rise(hT:Tab S Ts (fun _=>l))(hw:way<5)(hf:Finds Ts way (bts fr) l all k):all.Pairwise (fun a b=>ltB (wayK way a) (wayK way b)=true):=by have h:=(TrS.rise (hT.tr way hw)).filter (fun x=> !ltB x.1 (bts fr));have e:(Ts way).list.filter (fun x=> !ltB x.1 (bts fr))=all.map (kvW way):=hf.outs;rw[e,List.pairwise_map]at h;exact h
theorem Finds.nodup(hT:Tab S Ts (fun _=>l))(hw:way<5)(hf:Finds Ts way (bts fr) l all k):all.Nodup:=
 (hf.rise hT hw).imp (fun {a b} h e=>by rw[e,Z1h]at h;cases h)
theorem Finds.mem_iff(hT:Tab S Ts (fun _=>l))(hw:way<5)(hf:Finds Ts way (bts fr) l all k)(o:OpD):o∈all.take k↔o∈l/\Z3b (wayK way o) (bts fr)=true:=by
 constructor
 ·intro h;obtain⟨i,hi,rfl⟩:=List.mem_iff_getElem.1 h;rw[aD]at hi;rw[List.getElem_take];exact⟨hf.mem _ (List.getElem_mem _),hf.under i (by omega) (by omega)⟩
 ·rintro⟨ho,hu⟩;have h1:kvW way o∈Z1e (Ts way).list (bts fr):=List.mem_filter.2 ⟨(hT.mem way hw _).2 ⟨o,ho,rfl⟩,by
   rw[show ltB (kvW way o).1 (bts fr)=false from X6o hu];rfl⟩
  rw[hf.outs]at h1;obtain⟨a,ha,e⟩:=List.mem_map.1 h1;have hoc:=OpIn.of (hT.ok way hw o ho);have hac:=OpIn.of (hT.ok way hw a (hf.mem a ha));obtain rfl:a=o:=Y4p (hT.ids way hw) (hf.mem a ha) ho (Z8c (hac.way way) (hoc.way way) (congrArg Prod.fst e));obtain⟨i,hi,rfl⟩:=List.mem_iff_getElem.1 ha;rcases Nat.lt_or_ge i k with q | q
  ·exact List.mem_iff_getElem.2 ⟨i,by rw[aD];omega,by rw[List.getElem_take]⟩
  ·exfalso;have hk:k<all.length:=by omega
   have hs:=hf.stop hk;have hr:=hf.rise hT hw;have h2:Z3b (wayK way all[k]) (bts fr)=true:=by
    by_cases e2:k=i
    ·subst e2;exact hu
    ·have h3:=List.pairwise_iff_getElem.1 hr k i hk hi (by omega);have h4:kvW way all[k]∈Z1e (Ts way).list (bts fr):=by rw[hf.outs];exact List.mem_map.2 ⟨_,List.getElem_mem _,rfl⟩
     have h5:=(List.mem_filter.1 h4).2;exact Y7l hu (show ltB (wayK way all[k]) (bts fr)=false by simpa [kvW]using h5) (Z3f h3)
   rw[hs]at h2;cases h2
end
theorem X0r:∀a b:List Int,ltI a b=true->ltI b a=false
 | [],[],h=>by simp[ltI]at h
 | [],_::_,_=>rfl
 | _::_,[],h=>by simp[ltI]at h
 | x::a,y::b,h=>by
   unfold ltI at h ⊢;by_cases e:x=y
   ·rw[if_pos e]at h;rw[if_pos e.symm];exact X0r a b h
   ·rw[if_neg e]at h;rw[if_neg (fun q=>e q.symm)];have:=of_decide_eq_true h;exact decide_eq_false (by omega)
theorem U1e{a b:List Int}(ha:∀x∈a,Z9m x)(hb:∀x∈b,Z9m x):ltB (bts (keyL a)) (bts (keyL b))=ltI a b:=by rw[Bool.eq_iff_iff,V1y];exact U1f ha hb
theorem X3r{way:Nat}(hw:way<5)(o:OpD):wayI (way:Nat) o=wayL way o:=by unfold wayI;rw[if_pos ⟨by omega,by omega⟩];rfl
def V8n(x:OpD):Array Value:=#[x.val]
def T1(tb:Nat)(ts:Nat->Nat)(bt:Nat):Nat->Prop:=fun i=>i=tb\/(∃j,j<5/\i=ts j)\/i=bt
def ItF(tb p:Nat)(ts:Nat->Nat)(bt:Nat)(S:StoreD)(F:Nat->Prop)(W:World):Prop:=
 ∃Fp:Nat->Prop,F=(fun i=>Fp i\/T1 tb ts bt i)/\TblAt W tb p ts Fp/\PagerAt W p Fp S/\Row1 W bt 66 [tp tb]/\¬Fp bt
theorem ItF.abides{tb p bt B:Nat}{ts:Nat->Nat}{S:StoreD}(h1:tb<B)(h2:∀j,j<5->ts j<B)(h3:bt<B):Y3c B (ItF tb p ts bt S):=by rintro F W W' ⟨Fp,rfl,ht,hp,hr,hn⟩ ho;exact⟨Fp,rfl,⟨ho.row ht.row (fun q=>by omega),fun j hj=>ho.row (ht.tree j hj) (fun q=>by have:=h2 j hj;omega),ht.out,ht.outs⟩,hp.only ho (fun j q r=>r.1 (.inl q)),ho.row hr (fun q=>by omega),hn⟩
structure QRows (tb p:Nat) (ts:Nat->Nat) (bt bs by_ l:Nat) (begin:ByteArray) (W:World):Prop where
 row:X6c W tb ts
 tree:∀j,j<5->Z0b W (ts j) p j
 rt:Row1 W bt 66 [tp tb]
 rs:Row1 W bs 9 [.string begin]
 ry:Row1 W by_ 227 [.func (.yield l) #[] #[]]
def TQ(tb:Nat)(ts:Nat->Nat)(bt bs by_ fb kb:Nat):Nat->Prop:=fun i=>T1 tb ts bt i\/i=bs\/i=by_\/i=fb\/i=kb
theorem QRows.only{tb p:Nat}{ts:Nat->Nat}{bt bs by_ fb kb l:Nat}{begin:ByteArray}{G:Nat->Prop}{W W':World}(h:QRows tb p ts bt bs by_ l begin W)(ho:Only G W W')(hG:∀i,TQ tb ts bt bs by_ fb kb i->¬G i):QRows tb p ts bt bs by_ l begin W':=
 ⟨ho.row h.row (hG _ (.inl (.inl rfl))),fun j hj=>ho.row (h.tree j hj) (hG _ (.inl (.inr (.inl ⟨j,hj,rfl⟩)))),ho.row h.rt (hG _ (.inl (.inr (.inr rfl)))),ho.row h.rs (hG _ (.inr (.inl rfl))),ho.row h.ry (hG _ (.inr (.inr (.inl rfl))))⟩
theorem QRows.tbl{tb p:Nat}{ts:Nat->Nat}{bt bs by_ fb kb l:Nat}{begin:ByteArray}{F:Nat->Prop}{W:World}(h:QRows tb p ts bt bs by_ l begin W)(hF:∀i,TQ tb ts bt bs by_ fb kb i->¬F i):TblAt W tb p ts F:=
 ⟨h.row,h.tree,hF _ (.inl (.inl rfl)),fun j hj=>hF _ (.inl (.inr (.inl ⟨j,hj,rfl⟩)))⟩
section
variable (tb p:Nat) (ts:Nat->Nat) (bt bs by_ fb kb l way:Nat) (begin:ByteArray) (J Jx:List OpD->(Nat->Prop)->World->Prop) (all:List OpD) (k:Nat)
def QI(pre:List KV)(G:Nat->Prop)(W:World):Prop:=
 ∃Gc:Nat->Prop,G=(fun i=>Gc i\/TQ tb ts bt bs by_ fb kb i)/\(∀i,TQ tb ts bt bs by_ fb kb i->¬Gc i)/\pre=(all.take pre.length).map (kvW way)/\pre.length<=k/\pre.length<=all.length/\
  QRows tb p ts bt bs by_ l begin W/\J (all.take pre.length) Gc W
def QX(G:Nat->Prop)(W:World):Prop:=
 ∃(Gc:Nat->Prop) (j:Nat),G=(fun i=>Gc i\/TQ tb ts bt bs by_ fb kb i)/\(∀i,TQ tb ts bt bs by_ fb kb i->¬Gc i)/\j<=k/\j<=all.length/\
  QRows tb p ts bt bs by_ l begin W/\((j=k/\J (all.take j) Gc W)\/Jx (all.take j) Gc W)
end
section
variable {tb p:Nat} {ts:Nat->Nat} {bt bs by_ fb kb l way:Nat} {begin:ByteArray} {J Jx:List OpD->(Nat->Prop)->World->Prop} {all:List OpD} {k:Nat}
theorem QI.abides(hJ:Z2y J):Z2y (QI tb p ts bt bs by_ fb kb l way begin J all k):=by rintro s G W W' ⟨Gc,rfl,h1,h2,h3,h4,h5,h6⟩ hlt ho;exact⟨Gc,rfl,h1,h2,h3,h4,h5.only ho (fun i q r=>r (.inr q)),hJ _ _ _ _ h6 (fun i q=>hlt i (.inl q)) (ho.mono (fun i q=> .inl (fun r=>q (.inl r))))⟩
theorem QX.abides(hJ:Z2y J)(hJx:Z2y Jx)(G:Nat->Prop)(W W':World)(h:QX tb p ts bt bs by_ fb kb l begin J Jx all k G W)(hlt:∀i,G i->i<W.heap.size)(ho:Only (fun i=>¬G i) W W'):QX tb p ts bt bs by_ fb kb l begin J Jx all k G W':=by
 obtain⟨Gc,j,rfl,h1,h2,h3,h4,h5⟩:=h;have ho':Only (fun i=>¬Gc i) W W':=ho.mono (fun i q=> .inl (fun r=>q (.inl r)));refine⟨Gc,j,rfl,h1,h2,h3,h4.only ho (fun i q r=>r (.inr q)),?_⟩;rcases h5 with ⟨q1,q2⟩ | q
 ·exact .inl ⟨q1,hJ _ _ _ _ q2 (fun i q=>hlt i (.inl q)) ho'⟩
 ·exact .inr (hJx _ _ _ _ q (fun i q=>hlt i (.inl q)) ho')
theorem V0s{S:StoreD}{F1 F7 Gc1 F8' G8:Nat->Prop}{W w6 w8 w9:World}(hw:way<5)(hx:Ext W w6)(hit:ItT p (ts way) way S (fun b=>b=fb\/b=kb) F1 W)(hdd:Dis F1 (fun i=>Gc1 i\/TQ tb ts bt bs by_ fb kb i) W)(hg1:∀i,TQ tb ts bt bs by_ fb kb i->¬Gc1 i)
 (hn:∀i,(i=bs\/i=by_\/i=fb\/i=kb)->¬T1 tb ts bt i)(hk:Keeps F1 F7 w6 w8)(hq8:QRows tb p ts bt bs by_ l begin w8)(hi9:ItF tb p ts bt S F8' w9)(hd9:Dis F8' G8 w9)(hk9:Keeps (Un (fun i=>F7 i\/T1 tb ts bt i) Gc1) (Un F8' G8) w8 w9):
  ∃F8:Nat->Prop,ItT p (ts way) way S (fun b=>b=fb\/b=kb) F8 w9/\Dis F8 (fun i=>G8 i\/TQ tb ts bt bs by_ fb kb i) w9/\Keeps (Un F1 (fun i=>Gc1 i\/TQ tb ts bt bs by_ fb kb i)) (Un F8 (fun i=>G8 i\/TQ tb ts bt bs by_ fb kb i)) W w9/\(∀i,TQ tb ts bt bs by_ fb kb i->¬G8 i)/\QRows tb p ts bt bs by_ l begin w9:=by
 obtain⟨Fp,rfl,ht,hp,hr,hnb⟩:=hi9;have z1:=hx.size;have z2:=hk.only.size;have z3:=hk9.only.size;have hTlt:∀i,TQ tb ts bt bs by_ fb kb i->i<W.heap.size:=fun i q=>(hdd.2 i (.inr q)).1;have hTF:∀i,TQ tb ts bt bs by_ fb kb i->¬F7 i:=fun i q=>hk.out (by have:=hTlt i q;omega) (hdd.2 i (.inr q)).2;have hpu:∀i,(i=bs\/i=by_\/i=fb\/i=kb)->¬Un (fun i=>F7 i\/T1 tb ts bt i) Gc1 i:=fun i q r=>by
  rcases r with (r | r) | r
  ·exact hTF i (.inr q) r
  ·exact hn i q r
  ·exact hg1 i (.inr q) r
 have hpo:∀i,(i=bs\/i=by_\/i=fb\/i=kb)->¬Un (fun i=>Fp i\/T1 tb ts bt i) G8 i:=fun i q=>hk9.out (by have:=hTlt i (.inr q);omega) (hpu i q);have hTp:∀i,TQ tb ts bt bs by_ fb kb i->¬Fp i:=fun i q r=>by
  rcases q with (rfl | ⟨j,hj,rfl⟩ | rfl) | q
  ·exact ht.out r
  ·exact ht.outs j hj r
  ·exact hnb r
  ·exact hpo i q (.inl (.inl r))
 have hTG:∀i,TQ tb ts bt bs by_ fb kb i->¬G8 i:=fun i q r=>by
  rcases q with q | q
  ·exact(hd9.2 i r).2 (.inr q)
  ·exact hpo i q (.inr r)
 refine⟨Fp,⟨hp,ht.tree way hw,ht.outs way hw,fun b q=>⟨hTp b (.inr (.inr (.inr q))),by have:=hTlt b (.inr (.inr (.inr q)));omega⟩⟩,⟨fun i q=>hd9.1 i (.inl q),fun i q=> ?_⟩,⟨?_,fun i q=> ?_⟩,hTG,⟨ht.row,ht.tree,hr,hk9.only.row hq8.rs (hpu _ (.inl rfl)),hk9.only.row hq8.ry (hpu _ (.inr (.inl rfl)))⟩⟩
 ·rcases q with q | q
  ·exact⟨(hd9.2 i q).1,fun r=>(hd9.2 i q).2 (.inl r)⟩
  ·exact⟨by have:=hTlt i q;omega,hTp i q⟩
 ·refine((Only.of hx).trans hk.only (fun i q=> .inl (.inl q))).trans hk9.only (fun i q=> ?_);rcases q with (q | q) | q
  ·rcases hk.new i q with s | s
   ·exact .inl (.inl s)
   ·exact .inr (by omega)
  ·exact .inl (.inr (.inr (.inl q)))
  ·exact .inl (.inr (.inl q))
 ·have hnew:Un (fun i=>Fp i\/T1 tb ts bt i) G8 i->Un F1 (fun i=>Gc1 i\/TQ tb ts bt bs by_ fb kb i) i\/W.heap.size<=i:=fun q=>by
   rcases hk9.new i q with (s | s) | s
   ·rcases s with s | s
    ·rcases hk.new i s with s | s
     ·exact .inl (.inl s)
     ·exact .inr (by omega)
    ·exact .inl (.inr (.inr (.inl s)))
   ·exact .inl (.inr (.inl s))
   ·exact .inr (by omega)
  rcases q with q | q | q
  ·exact hnew (.inl (.inl q))
  ·exact hnew (.inr q)
  ·exact .inl (.inr (.inr q))
end
structure QPost (tb p:Nat) (ts:Nat->Nat) (bt:Nat) (S:StoreD) (F G:Nat->Prop) (J Jx:List OpD->(Nat->Prop)->World->Prop) (all:List OpD) (k:Nat) (w w':World):Prop where
 out:∃F2 G2,ItF tb p ts bt S F2 w'/\Dis F2 G2 w'/\Keeps (Un F G) (Un F2 G2) w w'/\((∃xs,xs=all.take k/\J xs G2 w')\/(∃pre,pre <+: all.take k/\Jx pre G2 w'))
attribute [local go_sem] Oper.semAt_some
theorem X6x(l':Nat){n:Nat}{P:Program}{l:Nat}{f:FuncId}{tmps:Array Value}{assign body:Code}{w:World}{R:Ending->World->Prop}(h:RoundIn Fence.wide n P l f tmps assign body w R):RoundIn (Fence.wide.inRound l') n P l f tmps assign body w R:=⟨h.1,fun c cs _=>h.2 c cs (room_wide _)⟩
end
section
open Go.RowKit
attribute [local go_sem] Oper.semAt_some
theorem V9k{bt tb p:Nat}{ts:Nat->Nat}{F G:Nat->Prop}{S:StoreD}{Ts:Nat->TrD}{ls all:List OpD}{k:Nat}{J Jx:List OpD->(Nat->Prop)->World->Prop}(l:Nat)(w:World)
 (hit0:ItF tb p ts bt S F w)(hdis0:Dis F G w)(hJ:Z2y J)(hJx:Z2y Jx)
 (hY:∀pre x W1 F1 G1,J pre G1 W1->ItF tb p ts bt S F1 W1->Dis F1 G1 W1->pre++ [x] <+: all.take k->YieldAt Fence.wide 0 Tryz.prog l (V8n x) W1 fun e W'=>
    ∃F2 G2,ItF tb p ts bt S F2 W'/\Dis F2 G2 W'/\Keeps (Un F1 G1) (Un F2 G2) W1 W'/\((e= .returned (.bool true)/\J (pre++ [x]) G2 W')\/(e= .returned (.bool false)/\Jx (pre++ [x]) G2 W')))
 (h0:J [] G w)(htr:TrS S 0 (Ts 0))(hoc0:∀o∈ls,Z1p o=0)(hd:depT (Ts 0)<=31)(hf:Finds Ts 0 ⟨#[]⟩ ls all k)(hka:k=all.length):
  cQ 132 #[.func (.yield l) #[] #[],tp bt] w fun e w'=>
   (∃v,e= .returned v)/\QPost tb p ts bt S F G J Jx all k w w':=by
 obtain⟨Fp,rfl,ht,hp,h1,hnb⟩:=hit0;have hFlow:∀i,Fp i->i<w.heap.size:=fun i q=>hdis0.1 i (.inl q);have hw:0<5:=by omega
 have HKA:=hD hka;clear hka;have cM:Hid (∀W,Ext w W->cQ 85 #[tp tb] W fun e w'=>e= .returned (.bool true)/\W=w'):=fun W hW=>Z2v W (ht.ext hW).row;have cA:Hid (∀W,cQ 53 #[.pointer (some ⟨ts 0,0,none⟩)] W (X3m (ts 0) ⟨#[]⟩ W)):=fun W=>X3k (ts 0) W;have HC:Hid (∀W,Ext w W->W.cell? ⟨bt,0,none⟩=some (tp tb)/\W.cell? ⟨tb,0,none⟩=some (tp (ts 0))):=fun W hW=>⟨(h1.ext hW h1.lt).cell 0,(hW.cell (p:=⟨tb,0,none⟩) ht.row.lt).trans (by rw[ht.row.cell 0,Y3j _ _ _ hw,if_pos hw])⟩;refine callsIn_wide (n:=3).1 ?_;refine callsIn_of_wp_marks Tryz.func132 rfl trivial ?_ rfl;simp only[Tryz.ntmps132,List.size_toArray,List.length_cons,List.length_nil,Nat.reduceAdd,Nat.reduceSub,Array.replicate_succ,Array.replicate_zero,List.push_toArray,List.append_toArray,List.nil_append,List.cons_append];obtain⟨W2,hW0⟩:∃W0,w.alloc (.cells #[.func (.yield l) #[] #[]] 227)=W0:=⟨_,rfl⟩;have HX2:Hid (Ext w W2):=by unfold Hid;rw[<-hW0];exact Ext.alloc _ _
 have HYY:Hid (Row1 W2 w.heap.size 227 [.func (.yield l) #[] #[]]):=by unfold Hid;rw[<-hW0];exact Row1.made w _ _
 obtain⟨d1,d2⟩:=HC.out _ HX2.out;gi_wp2_with (first
  | (refine ⟨trivial,?_⟩;gi_at_call 85;refine(callsIn_wide.2 (cM.out _ HX2.out)).mono ?_;clear cM;rintro e w2 ⟨rfl,rfl⟩)
  | (refine ⟨trivial,?_⟩;gi_at_call 53;refine(callsIn_wide.2 (cA.out _)).mono ?_;clear cA;rintro e w3 ⟨fb,kb,rfl,h31,h32,h33,h34,h35⟩))
 have HX3:=hD h31;clear hW0 d1 d2;have hw3:Ext w w3:=HX2.out.trans HX3.out;have hz3:=HX3.out.size;have hzw:=HX2.out.size;have hyy:=HYY.out.lt;have hbt:=h1.lt;have hfb:W2.heap.size<=fb:=h32;have hkb:W2.heap.size<=kb:=h33;have hfl:=h34.lt;have hkl:=h35.lt;have htl:∀j,j<5->ts j<w.heap.size:=fun j hj=>(ht.tree j hj).lt;have hT1:∀i,T1 tb ts bt i->i<w.heap.size/\¬Fp i/\¬G i:=fun i q=>⟨hdis0.1 i (.inr q),by
  rcases q with rfl | ⟨j,hj5,rfl⟩ | rfl
  ·exact ht.out
  ·exact ht.outs j hj5
  ·exact hnb,fun r=>(hdis0.2 i r).2 (.inr q)⟩
 have hT2:∀i,(i=kb\/i=w.heap.size\/i=fb\/i=kb)->w.heap.size<=i/\i<w3.heap.size:=fun i q=>by rcases q with rfl | rfl | rfl | rfl<;>omega
 have hn12:∀i,(i=kb\/i=w.heap.size\/i=fb\/i=kb)->¬T1 tb ts bt i:=fun i q r=>by have:=hT2 i q;have:=(hT1 i r).1;omega
 have hTF:∀i,TQ tb ts bt kb w.heap.size fb kb i->i<w3.heap.size/\¬Fp i/\¬G i:=fun i q=>by
  rcases q with q | q
  ·have:=hT1 i q;exact⟨by omega,this.2⟩
  ·have:=hT2 i q;exact⟨this.2,fun r=>by have:=hFlow i r;omega,fun r=>by have:=(hdis0.2 i r).1;omega⟩
 have HFR:Hid (QRows tb p ts bt kb w.heap.size l ⟨#[]⟩ w3):=⟨ht.row.ext hw3 ht.row.lt,fun j hj5=>(ht.tree j hj5).ext hw3 (ht.tree j hj5).lt,h1.ext hw3 h1.lt,h35,HYY.out.ext HX3.out hyy⟩;have HIT:Hid (ItT p (ts 0) 0 S (fun b=>b=fb\/b=kb) Fp w3):=⟨hp.ext hw3,(ht.tree 0 hw).ext hw3 (ht.tree 0 hw).lt,ht.outs 0 hw,fun b q=>⟨fun r=>by have:=hFlow b r;rcases q with rfl | rfl<;>omega,by rcases q with rfl | rfl<;>omega⟩⟩;have HDI:Hid (Dis Fp (fun i=>G i\/TQ tb ts bt kb w.heap.size fb kb i) w3):=⟨fun i q=>by have:=hFlow i q;omega,fun i q=>by
  rcases q with q | q
  ·exact⟨by have:=(hdis0.2 i q).1;omega,fun r=>(hdis0.2 i q).2 (.inl r)⟩
  ·exact⟨(hTF i q).1,(hTF i q).2.1⟩⟩
 have HFI:Hid (QI tb p ts bt kb w.heap.size fb kb l 0 ⟨#[]⟩ J all k [] (fun i=>G i\/TQ tb ts bt kb w.heap.size fb kb i) w3):=⟨G,rfl,fun i q=>(hTF i q).2.2,rfl,Nat.zero_le _,Nat.zero_le _,HFR.out,by rw[List.length_nil,List.take_zero];exact hJ _ _ _ _ h0 (fun i q=>(hdis0.2 i q).1) (Only.of hw3)⟩;have HE:Hid (∀(D:Nat) (W:World) (F1 Gc1:Nat->Prop) (j:Nat),w3.heap.size<=D->(∀i,TQ tb ts bt kb w.heap.size fb kb i->¬Gc1 i)->j<=k->j<=all.length->QRows tb p ts bt kb w.heap.size l ⟨#[]⟩ W->((j=k/\J (all.take j) Gc1 W)\/Jx (all.take j) Gc1 W)->ItT p (ts 0) 0 S (fun b=>b=fb\/b=kb) F1 W->Dis F1 (fun i=>Gc1 i\/TQ tb ts bt kb w.heap.size fb kb i) W->¬F1 D->¬(Gc1 D\/TQ tb ts bt kb w.heap.size fb kb D)->Keeps (Un Fp (fun i=>G i\/TQ tb ts bt kb w.heap.size fb kb i)) (Un F1 (fun i=>Gc1 i\/TQ tb ts bt kb w.heap.size fb kb i)) w3 W->
   QPost tb p ts bt S (fun i=>Fp i\/T1 tb ts bt i) G J Jx all k w (W.putObj D (.deferred none))):=fun D W F1 Gc1 j jH hg1 hjk hja hfr hfj hit hdd hn1' hn2' hk=>by
  have ho:=Only.putObj W D (.deferred none);have hz:(W.putObj D (.deferred none)).heap.size=W.heap.size:=by simp
  have hfr2:=hfr.only (fb:=fb) (kb:=kb) ho (fun i q r=>hn2' (.inr (r▸q)));have hJo:Only (fun i=>¬Gc1 i) W (W.putObj D (.deferred none)):=ho.mono (fun i q=> .inl (fun r=>hn2' (.inl (q▸r))));have hnew:∀i,Un F1 (fun i=>Gc1 i\/TQ tb ts bt kb w.heap.size fb kb i) i->Un (fun i=>Fp i\/T1 tb ts bt i) G i\/w.heap.size<=i:=fun i q=>by
   rcases hk.new i q with (s | s | s | s) | s
   ·exact .inl (.inl (.inl s))
   ·exact .inl (.inr s)
   ·exact .inl (.inl (.inr s))
   ·exact .inr (hT2 i s).1
   ·exact .inr (by have:=hw3.size;omega)
  constructor;refine⟨fun i=>F1 i\/T1 tb ts bt i,Gc1,⟨F1,rfl,hfr2.tbl (fb:=fb) (kb:=kb) (fun i q=>(hdd.2 i (.inr q)).2),hit.1.only ho (fun i q r=>hn1' (r▸q)),hfr2.rt,(hdd.2 bt (.inr (.inl (.inr (.inr rfl))))).2⟩,⟨fun i q=> ?_,fun i q=>⟨by rw[hz];exact(hdd.2 i (.inl q)).1,fun r=> ?_⟩⟩,⟨?_,fun i q=> ?_⟩,?_⟩
  ·rw[hz];rcases q with q | q
   ·exact hdd.1 i q
   ·exact(hdd.2 i (.inr (.inl q))).1
  ·rcases r with r | r
   ·exact(hdd.2 i (.inl q)).2 r
   ·exact hg1 i (.inl r) q
  ·refine((Only.of hw3).trans hk.only (fun i q=> ?_)).trans ho (fun i q=> .inr (by have:=hw3.size;omega));rcases q with s | s | s | s
   ·exact .inl (.inl (.inl s))
   ·exact .inl (.inr s)
   ·exact .inl (.inl (.inr s))
   ·exact .inr (hT2 i s).1
  ·rcases q with (q | q) | q
   ·exact hnew i (.inl q)
   ·exact .inl (.inl (.inr q))
   ·exact hnew i (.inr (.inl q))
  ·rcases hfj with ⟨q1,q2⟩ | q
   ·exact .inl ⟨_,by rw[q1],hJ _ _ _ _ q2 (fun i q=>(hdd.2 i (.inl q)).1) hJo⟩
   ·exact .inr ⟨_,List.take_prefix_take_left hjk,hJx _ _ _ _ q (fun i q=>(hdd.2 i (.inl q)).1) hJo⟩
 refine Y4q (motive:=fun a=>Code.wpIn Fence.wide 3 Tryz.prog _ _ a _) (fun a0 hA0=> ?_);refine Z2q rfl (by decide) (gf:=106) (lb:=#[tp fb,tp kb]) (by rw[hA0];rfl) trivial (enters_of Tryz.func106 (by kernel_rfl) rfl)
  (Y0i (K:=fun b=>b=fb\/b=kb) ⟨#[]⟩ (Ts 0) w3 htr (Z4a hd) (by omega) h34 h35 (.inl rfl) (.inr rfl)) (Ext.refl w3) (fun _=>rfl) Fp (fun i=>G i\/TQ tb ts bt kb w.heap.size fb kb i) (ItT.abides (p:=p) (i:=0) (aE (htl 0 hw) hw3.size))
  HIT.out HDI.out (QI tb p ts bt kb w.heap.size fb kb l 0 ⟨#[]⟩ J all k)
  (fun c pre G W=>c= .ret/\QX tb p ts bt kb w.heap.size fb kb l ⟨#[]⟩ J Jx all k G W)
  (QI.abides hJ) (fun c s G W W' q q2 q3=>⟨q.1,QX.abides hJ hJx G W W' q.2 q2 q3⟩) HFI.out
  (fun x=> { tmps:=(((a0.tmps.setIfInBounds 16 (.string x.1)).setIfInBounds 17 (.string x.2)).setIfInBounds 4 (.string x.2)),defers:= []}) ?assign ?body ?done ?stop
 case assign=>
  intro l x W K hK;subst hA0;simp only[X8i,X1n,List.setIfInBounds_toArray,List.set_cons_succ,List.set_cons_zero]at hK ⊢;gi_wp2;exact hK
 case body=>
  rintro l' pre x W F1 G1 ⟨Gc1,rfl,hg1,hpre,hpk,hpa,hfr,hfj⟩ hit hdd hok;rw[hf.outs]at hok;obtain⟨m,hm⟩:∃m,pre.length=m:=⟨_,rfl⟩;rw[hm]at hpre hpk hpa hfj;have hxm:all[m]?.map (kvW 0)=some x:=by
   have e1:(pre++ [x])[m]? =some x:=by rw[<-hm];simp
   obtain⟨r,hr⟩:=hok;have e2:(all.map (kvW 0))[m]? =some x:=by rw[<-hr,aL (by rw[aA,hm];simp)];exact e1
   rwa [List.getElem?_map]at e2
  have hml:m<all.length:=by
   rcases Nat.lt_or_ge m all.length with q | q
   ·exact q
   ·rw[List.getElem?_eq_none q]at hxm;cases hxm
  obtain⟨o,hoe⟩:∃o,all[m]=o:=⟨_,rfl⟩;rw[aB hml,hoe]at hxm;obtain rfl:kvW 0 o=x:=by injection hxm
  have hol:o∈ls:=by rw[<-hoe];exact hf.mem _ (List.getElem_mem hml)
  have hoc:=hoc0 o hol;have hmk:m<k:=by have:=HKA.out;omega
  have cD:cQ 88 #[.string (bts (opL o))] W fun e w'=>e= .returned (.tuple #[.agg #[.int .i64 o.id,.int .i64 o.proc,.int .i64 o.object,.int .i64 o.kind,.int .i64 o.method,.int .i64 o.arg,.int .i64 o.second,.bool o.done,.int .i64 o.result,.int .i64 o.invoke,.int .i64 o.ret],.int .i64 0])/\Ext W w':=Z7k o W hoc;have HFRW:=hD hfr;have HFJW:=hD hfj;have HITW:=hD hit;have HDDW:=hD hdd;have HPL:=hD hm;have htl':(all.take m).length=m:=by rw[aD];omega
  have htk:all.take m++ [o]=all.take (m+1):=by rw[List.take_add_one,aB hml,hoe];rfl
  have HTK:Hid (((all.take m).length:Nat)=m/\all.take m++ [o]=all.take (m+1)):=⟨htl',htk⟩;have HPX:Hid (pre++ [kvW 0 o]=(all.take (m+1)).map (kvW 0)):=by unfold Hid;rw[<-htk,List.map_append,<-hpre];rfl
  have HOK:Hid (all.take m++ [o] <+: all.take k):=by unfold Hid;rw[htk];exact List.take_prefix_take_left (by omega)
  have HY8:Hid (∀w8,Ext W w8->QRows tb p ts bt kb w.heap.size l ⟨#[]⟩ w8/\∃fn9 tm9 as9 bo9,(Instr.yield l #[.agg #[.int .i64 o.id,.int .i64 o.proc,.int .i64 o.object,.int .i64 o.kind,.int .i64 o.method,.int .i64 o.arg,.int .i64 o.second,.bool o.done,.int .i64 o.result,.int .i64 o.invoke,.int .i64 o.ret]]).run Tryz.prog w8= .ok (.round l fn9 tm9 as9 bo9) w8/\RoundIn Fence.wide 0 Tryz.prog l fn9 tm9 as9 bo9 w8 fun e w9=>∃F2 G2,ItF tb p ts bt S F2 w9/\Dis F2 G2 w9/\Keeps (Un (fun i=>F1 i\/T1 tb ts bt i) Gc1) (Un F2 G2) w8 w9/\((e= .returned (.bool true)/\J (all.take m++ [o]) G2 w9)\/(e= .returned (.bool false)/\Jx (all.take m++ [o]) G2 w9))):=fun w8 hx8=>by
   have hq8:QRows tb p ts bt kb w.heap.size l ⟨#[]⟩ w8:=HFRW.out.only (fb:=fb) (kb:=kb) (Only.of (F:=fun _=>False) hx8) (fun _ _ q=>q);have hz8:=hx8.size;have hTF1:∀i,TQ tb ts bt kb w.heap.size fb kb i->¬F1 i:=fun i q=>(HDDW.out.2 i (.inr q)).2;have hi8:ItF tb p ts bt S (fun i=>F1 i\/T1 tb ts bt i) w8:=⟨F1,rfl,hq8.tbl (fb:=fb) (kb:=kb) hTF1,HITW.out.1.ext hx8,hq8.rt,hTF1 _ (.inl (.inr (.inr rfl)))⟩;have hd8:Dis (fun i=>F1 i\/T1 tb ts bt i) Gc1 w8:=⟨fun i q=>by
    rcases q with q | q
    ·have:=HDDW.out.1 i q;omega
    ·have:=(HDDW.out.2 i (.inr (.inl q))).1;omega,fun i q=>⟨by have:=(HDDW.out.2 i (.inl q)).1;omega,fun r=>by
    rcases r with r | r
    ·exact(HDDW.out.2 i (.inl q)).2 r
    ·exact hg1 i (.inl r) q⟩⟩
   refine⟨hq8,?_⟩;obtain⟨fn9,tm9,as9,bo9,hy9,hR9⟩:=hY (all.take m) o w8 _ Gc1 (hJ _ _ _ _ HFJW.out (fun i q=>(HDDW.out.2 i (.inl q)).1) (Only.of hx8)) hi8 hd8 HOK.out;exact⟨fn9,tm9,as9,bo9,hy9,hR9⟩
  have HROUND:Hid (∀(F8' G8:Nat->Prop) (w8 w9:World),Ext W w8->QRows tb p ts bt kb w.heap.size l ⟨#[]⟩ w8->ItF tb p ts bt S F8' w9->Dis F8' G8 w9->Keeps (Un (fun i=>F1 i\/T1 tb ts bt i) Gc1) (Un F8' G8) w8 w9->
    ∃F8:Nat->Prop,ItT p (ts 0) 0 S (fun b=>b=fb\/b=kb) F8 w9/\Dis F8 (fun i=>G8 i\/TQ tb ts bt kb w.heap.size fb kb i) w9/\Keeps (Un F1 (fun i=>Gc1 i\/TQ tb ts bt kb w.heap.size fb kb i)) (Un F8 (fun i=>G8 i\/TQ tb ts bt kb w.heap.size fb kb i)) W w9/\(∀i,TQ tb ts bt kb w.heap.size fb kb i->¬G8 i)/\QRows tb p ts bt kb w.heap.size l ⟨#[]⟩ w9):=fun F8' G8 w8 w9 hx hq8 hi9 hd9 hk9=>V0s hw hx HITW.out HDDW.out hg1 hn12 Keeps.refl hq8 hi9 hd9 hk9
  clear hfr hfj hit hdd htr hoc0 hm hpre htl' htk;subst hA0;have hrec:recW 0 o=bts (opL o):=rfl;dsimp only[kvW];simp only[List.setIfInBounds_toArray,List.set_cons_succ,List.set_cons_zero,hrec];gi_wp2_with (refine ⟨trivial,?_⟩;gi_at_call 88;refine(CallsIn.inRound l' (callsIn_wide.2 cD)).mono ?_;clear cD;rintro e w6 ⟨rfl,hx6⟩;obtain⟨hq8,fn9,tm9,as9,bo9,hy8,hR9⟩:=HY8.out (w6.alloc (.cells #[.int .i64 o.id,.int .i64 o.proc,.int .i64 o.object,.int .i64 o.kind,.int .i64 o.method,.int .i64 o.arg,.int .i64 o.second,.bool o.done,.int .i64 o.result,.int .i64 o.invoke,.int .i64 o.ret] 73)) (hx6.trans (Ext.alloc _ _));have HX8:=hD (hx6.trans (Ext.alloc w6 (.cells #[.int .i64 o.id,.int .i64 o.proc,.int .i64 o.object,.int .i64 o.kind,.int .i64 o.method,.int .i64 o.arg,.int .i64 o.second,.bool o.done,.int .i64 o.result,.int .i64 o.invoke,.int .i64 o.ret] 73)));have HQ8:=hD hq8;have HR9:=hD hR9;have y0:=hq8.ry.cell 0;obtain⟨o0,o1,o2,o3,o4,o5,o6,o7,o8,o9,o10⟩:=At11.row (Row1.made w6 73 o.cells);clear hq8 hR9 hx6 HY8);refine RoundIn.mono (X6x l' HR9.out) ?_;rintro e w9 ⟨F8',G8,hi9,hd9,hk9,hj9⟩;have HFIN:=hD (HROUND.out F8' G8 _ w9 HX8.out HQ8.out hi9 hd9 hk9);rw[HTK.out.2]at hj9;clear hi9 hd9 hk9;rcases hj9 with ⟨rfl,hj8⟩ | ⟨rfl,hj8⟩
  ·have HJ9:=hD hj8;clear hj8;gi_wp2;obtain⟨F9,r1,r2,r3,r4,r5⟩:=HFIN.out;exact⟨F9,_,r1,r2,r3,G8,rfl,r4,by rw[aA,HPL.out,aK];exact HPX.out,by rw[aA,HPL.out,aK];exact hmk,by rw[aA,HPL.out,aK];exact hml,r5,by rw[aA,HPL.out,aK];exact HJ9.out⟩
  ·have HJ9:=hD hj8;clear hj8;gi_wp2;obtain⟨F9,r1,r2,r3,r4,r5⟩:=HFIN.out;exact⟨F9,_,r1,r2,r3,rfl,G8,m+1,rfl,r4,hmk,hml,r5,.inr HJ9.out⟩
 case done=>
  rintro D pre0 W F1 G1 jH hxs ⟨Gc1,rfl,hg1,hpre,hpk,hpa,hfr,hfj⟩ hit hdd hn1' hn2' hk hK;have hpk':pre0.length=k:=by have e:=congrArg List.length hxs;rw[hf.outs,List.length_map]at e;have:=HKA.out;omega
  have HFIN:=HE.out D W F1 Gc1 _ jH hg1 hpk hpa hfr (.inl ⟨hpk',hfj⟩) hit hdd hn1' hn2' hk;have HK:=hD hK;have HFN:=hD HFIN;clear hk hit hdd hK hfr hfj HFIN;subst hA0;gi_wp2;exact⟨by simp,.inl ⟨_,_,rfl,run_takeDeferred HK.out,_,results_none rfl _ _ _,⟨_,rfl⟩,HFN.out⟩⟩
 case stop=>
  rintro D c pre W F1 G1 jH hpre ⟨rfl,Gc1,j,rfl,hg1,hjk,hja,hfr,hfj⟩ hit hdd hn1' hn2' hk hK;have HFIN:=HE.out D W F1 Gc1 _ jH hg1 hjk hja hfr hfj hit hdd hn1' hn2' hk;have HK:=hD hK;have HFN:=hD HFIN;clear hk hit hdd hK hfr hfj HFIN;subst hA0;gi_wp2;exact⟨by simp,.inl ⟨_,_,rfl,run_takeDeferred HK.out,_,results_none rfl _ _ _,⟨_,rfl⟩,HFN.out⟩⟩
theorem Y7c{bt tb p m:Nat}{ts:Nat->Nat}{S:StoreD}{Ts:Nat->TrD}{ls all:List OpD}(w:World)
 (htr:TrS S 0 (Ts 0))(hoc0:∀o∈ls,Z1p o=0)(hd:depT (Ts 0)<=31)(hf:Finds Ts 0 ⟨#[]⟩ ls all all.length):
  SeqO Fence.wide m Tryz.prog 132 #[tp bt] V8n (ItF tb p ts bt S) (fun xs=>xs=all.take all.length) (fun pre=>pre <+: all.take all.length) (fun pre x=>pre++ [x] <+: all.take all.length) w:=by
 intro l J Jx W F G hx hit hdis hJ hJx hY h0;refine callsIn_wide.2 ((V9k l W hit hdis hJ hJx (fun pre x W1 F1 G1 q1 q2 q3 q4=>Y2c (hY pre x W1 F1 G1 q1 q2 q3 q4)) h0 htr hoc0 hd hf rfl).mono (fun e w' h=>⟨h.1,h.2.out⟩))
end
section
open Go.RowKit
attribute [local go_sem] Oper.semAt_some
theorem X3n(p:Tmp)(u:Value)(t:Array Value):(#[p].zip #[u]).foldl (fun t (p,v)=>t.setIfInBounds p v) t=t.setIfInBounds p u:=by simp
end
section
open Go.RowKit
attribute [local go_sem] Oper.semAt_some
theorem Tab.all{S:StoreD}{Ts:Nat->TrD}{ls:List OpD}(hT:Tab S Ts (fun _=>ls)):∃all,Finds Ts 0 ⟨#[]⟩ ls all all.length/\all.length<=ls.length:=by
 obtain⟨all,k,hf⟩:=hT.finds (way:=0) (by omega) (bts []);have hal:all.length<=ls.length:=(hf.nodup hT (by omega)).length_le_of_subset (fun o ho=>hf.mem o ho);have hk:k=all.length:=by
  rcases Nat.lt_or_ge k all.length with q | q
  ·have:=hf.stop q;rw[wayK,Y0w]at this;simp at this
  ·have:=hf.le;omega
 subst hk;exact⟨all,hf,hal⟩
theorem ItF.only{tb p bt:Nat}{ts:Nat->Nat}{S:StoreD}{F G:Nat->Prop}{W W':World}(h:ItF tb p ts bt S F W)(ho:Only G W W')(hG:∀i,G i->¬F i):ItF tb p ts bt S F W':=by obtain⟨Fp,rfl,ht,hp,hr,hn⟩:=h;exact⟨Fp,rfl,⟨ho.row ht.row (fun q=>hG _ q (.inr (.inl rfl))),fun j hj=>ho.row (ht.tree j hj) (fun q=>hG _ q (.inr (.inr (.inl ⟨j,hj,rfl⟩)))),ht.out,ht.outs⟩,hp.only ho (fun i q r=>hG i r (.inl q)),ho.row hr (fun q=>hG _ q (.inr (.inr (.inr rfl)))),hn⟩
end
section
open Go.RowKit
theorem V0e{tr p i:Nat}{F:Nat->Prop}{S:StoreD}(T:TrD)(w:World)(ht:Z0b w tr p i)(hnt:¬F tr)(h:PagerAt w p F S)(hi:i<16)(hf:Fm S)(hT:TrS S i T)(hd:T.fine):
  cQ 87 #[tp tr] w fun e w'=>e= .returned (.bool true)/\∃F',PagerAt w' p F' S/\Keeps F F' w w':=by
 have cL:=X4y T w ht hnt h hi hf hT hd;clear ht hnt h hf hT hd;go_enter Tryz.func87,Tryz.ntmps87;go_wp2_with (go_at_call 145;(with_reducible refine cL.mono ?_);clear cL;rintro e w1 ⟨vb,A,n,c,mb,last,any,F1,rfl,hr,ho,hF,hp,hk⟩;have v1:w1.cell? ⟨vb,6,none⟩=some (.bool false):=hr.cell 6;have HP:=hD hp;have HK:=hD hk;clear hr ho hF hp hk);go_ret;exact⟨rfl,F1,HP.out,HK.out⟩
def opAa:OpD:=⟨1,0,3,6,13,0,0,false,0,9,0⟩
def opAb:OpD:=⟨2,0,3,6,13,0,0,false,0,4,0⟩
theorem U1a:Z1p opAa=0:=by decide
theorem U0z:Z1p opAb=0:=by decide
theorem X4g:∀(l r:List KV),Z6w l->Z6w r->(∀x,x∈l↔x∈r)->l=r
 | [],[],_,_,_=>rfl
 | [],y::r,_,_,h=>absurd ((h y).2 List.mem_cons_self) (by simp)
 | x::l,[],_,_,h=>absurd ((h x).1 List.mem_cons_self) (by simp)
 | x::l,y::r,hl,hr,h=>by
   have h1:=List.pairwise_cons.1 hl;have h2:=List.pairwise_cons.1 hr;have e:x=y:=by
    rcases List.mem_cons.1 ((h x).1 List.mem_cons_self)with e | hx
    ·exact e
    ·rcases List.mem_cons.1 ((h y).2 List.mem_cons_self)with e | hy
     ·exact e.symm
     ·have a:=h1.1 y hy;have b:=h2.1 x hx;rw[Z3f a]at b;cases b
   subst e;rw[X4g l r h1.2 h2.2 (fun z=>⟨fun hz=>by
    rcases List.mem_cons.1 ((h z).1 (List.mem_cons_of_mem _ hz))with e | q
    ·have a:=h1.1 z hz;subst e;rw[Z1h]at a;cases a
    ·exact q,fun hz=>by
    rcases List.mem_cons.1 ((h z).2 (List.mem_cons_of_mem _ hz))with e | q
    ·have a:=h2.1 z hz;subst e;rw[Z1h]at a;cases a
    ·exact q⟩)]
theorem U2u:ltB (wayK 1 opAb) (wayK 1 opAa)=true:=by kernel_rfl
theorem U1x:ltB (wayK 1 opAa) (bts (keyL [3]))=false:=by kernel_rfl
theorem U1s:ltB (wayK 1 opAb) (bts (keyL [3]))=false:=by kernel_rfl
theorem U1w:Z3b (wayK 1 opAa) (bts (keyL [3]))=true:=by kernel_rfl
theorem U1r:Z3b (wayK 1 opAb) (bts (keyL [3]))=true:=by kernel_rfl
theorem X3i{S:StoreD}{Ts:Nat->TrD}(hT:Tab S Ts (fun _=> [opAb,opAa])):Finds Ts 1 (bts (keyL [3])) [opAb,opAa] [opAb,opAa] 2:=by
 have hl:(Ts 1).list= [kvW 1 opAb,kvW 1 opAa]:=by
  refine X4g _ _ (hT.tr 1 (by omega)).rise (List.pairwise_cons.2 ⟨fun x hx=> ?_,List.pairwise_cons.2 ⟨fun x hx=>(by cases hx),List.Pairwise.nil⟩⟩) (fun x=> ?_)
  ·rw[List.mem_singleton]at hx;subst hx;exact U2u
  ·rw[hT.mem 1 (by omega)];constructor
   ·rintro⟨o,ho,rfl⟩;rcases List.mem_cons.1 ho with rfl | ho
    ·exact List.mem_cons_self
    ·rw[List.mem_singleton]at ho;subst ho;exact List.mem_cons_of_mem _ List.mem_cons_self
   ·intro hx;rcases List.mem_cons.1 hx with rfl | hx
    ·exact⟨opAb,List.mem_cons_self,rfl⟩
    ·rw[List.mem_singleton]at hx;subst hx;exact⟨opAa,List.mem_cons_of_mem _ List.mem_cons_self,rfl⟩
 refine⟨?_,fun o ho=>ho,fun i h hi=> ?_,fun h=>absurd h (by simp),by simp⟩
 ·rw[hl];refine Z2m (fun x hx=> ?_);rcases List.mem_cons.1 hx with rfl | hx
  ·show(!ltB (wayK 1 opAb) _)=true;rw[U1s];rfl
  ·rw[List.mem_singleton]at hx;subst hx;show(!ltB (wayK 1 opAa) _)=true;rw[U1x];rfl
 ·match i,hi with
  | 0,_=>exact U1r
  | 1,_=>exact U1w
theorem X9z{n room:Nat}(hf:FullV (Z1j n room)):Tab (Z1j n room) (fun _=> .no) (fun _=> []):=
 ⟨X4m hf,fun i _=>X4l n room i,fun _ _ _ _ _ b hb=>absurd hb (by simp[TrD.pages]),fun _ _ o ho=>absurd ho (by simp),fun _ _=>List.Pairwise.nil,fun _ _ x=>⟨fun h=>absurd h (by simp[TrD.list]),fun⟨o,ho,_⟩=>absurd ho (by simp)⟩⟩
theorem X0p{Ts:Nat->TrD}{m:Nat}:∀k,(∀i,i<k->depT (Ts i)<=m)->Z4y Ts k<=k*(m+1)
 | 0,_=>by simp[Z4y]
 | k+1,h=>by have h1:=X0p k (fun i hi=>h i (by omega));have h2:=h k (by omega);have h3:=Y0b (Ts k);show Z4y Ts k+(Ts k).need<=_;rw[Nat.add_mul];omega
structure PutDone (tb p:Nat) (ts:Nat->Nat) (o:OpD) (l:List OpD) (m:Nat) (S:StoreD) (F:Nat->Prop) (w w':World) (S':StoreD) (Ts':Nat->TrD) (F':Nat->Prop):Prop where
 at_:TblAt w' tb p ts F'
 pag:PagerAt w' p F' S'
 keep:Keeps F F' w w'
 tab:Tab S' Ts' (fun _=>o::l)
 dep:∀i,i<5->depT (Ts' i)<=m+1
 room:Z0z S<=Z0z S'+5*(m+1)
theorem X0c{tb p:Nat}{ts:Nat->Nat}{F:Nat->Prop}{S:StoreD}{Ts:Nat->TrD}{l:List OpD}(o:OpD)(m:Nat)(w:World)(ht:TblAt w tb p ts F)(hp:PagerAt w p F S)(hT:Tab S Ts (fun _=>l))(ho:Z1p o=0)
 (hno:∀x∈l,x.id≠o.id)(hd:∀i,i<5->depT (Ts i)<=m)(hm:m<=31)(hr:5*(m+1)<=Z0z S):
  cQ 69 #[tp tb,o.val] w fun e w'=>e= .returned (.int .i64 0)/\∃S' Ts' F',PutDone tb p ts o l m S F w w' S' Ts' F':=by
 have hin:=OpIn.of ho;have hid:In64 o.id:=by have:=hin.id;unfold In64;omega
 have hg:getL l o.id=none:=by unfold getL;rw[List.find?_eq_none];intro x hx;have:=hno x hx;simpa using this
 have hn:=X0p 5 hd;refine(X9u o w ht hp ho (fun W F1 h1 h2=>(Y3h o.id W h1 h2 hT (by have:=hd 0 (by omega);omega) hid hg).mono ?_) hT (fun i _=>hno) (fun i hi=>by have:=hd i hi;omega) (by omega)).mono ?_
 ·rintro e w' ⟨rfl,F',h3,h4,h5⟩;exact⟨6,.inr rfl,rfl,F',h3,h4,h5⟩
 ·rintro e w' ⟨rfl,S',Ts',F',hk⟩;refine⟨rfl,S',Ts',F',hk.at_,hk.pag,hk.keep,hk.tab.congr (fun i _=>rfl) (fun i hi=>by rw[if_pos hi]),fun i hi=> ?_,by have:=hk.room;omega⟩;obtain⟨Sa,Sb,_,_,hb⟩:=hk.done i hi;have:=X0d hb;have:=hd i hi;omega
end
end Go.Proofs.YtohaldfnmgcofaaGreat
