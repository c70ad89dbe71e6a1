/- What a statement of layer 13 finds in a table: as many operations as are asked for, out of those under a key. Conditions: a table's trees. -/
import Derived.Test.YtmiolpfanlpfnaaGreatU41
set_option maxRecDepth 100000
set_option maxHeartbeats 4000000
set_option linter.unusedSimpArgs false
set_option linter.unusedVariables false
namespace Go.Proofs.YtmiolpfanlpfnaaGreat
section
open Go.RowKit
theorem Y4a{A:Option Addr}{n c tb p:Nat}{ts:Nat→Nat}{F:Nat→Prop}{S:StoreD}{Ts:Nat→TrD}{l all:List OpD}{k:Nat}(way most:Nat)(fl:List Int)(w:World)
 (ht:TblAt w tb p ts F)(hp:PagerAt w p F S)(hT:Tab S Ts (fun _=>l))(hd:∀i,i<5→depT (Ts i)≤31)(hw:way<5)
 (hs:Sl w 1 (fun x cs=>cs=encN x) (.slice A n c) fl)(hl:∀x∈fl,In64 x)(h4:fl.length≤4)(hf:Finds Ts way (bts (keyL fl)) l all k)(hal:all.length≤100000)(hm:0<most):
  Calls Tryz.prog 20 #[tp tb,.int .i64 (way:Nat),.slice A n c,.int .i64 (most:Nat)] w fun e w'=>
   ∃(A':Option Addr) (c' j:Nat) (F2:Nat→Prop),e= .returned (.slice A' j c')∧OwnL w' 0 32 11 OpD.cells (.slice A' j c') (all.take j)∧j≤k∧j≤all.length∧((j=k∨most≤j)∧j≤most)∧TblAt w' tb p ts F2∧PagerAt w' p F2 S∧Keeps F F2 w w':=by
 have cF:Hid (∀W,Calls Tryz.prog 65 #[tp tb,.int .i64 (way:Nat),.slice A n c] W (V8d (A:=A) (n:=n) (c:=c) (some ⟨tb,0,none⟩) (way:Nat) W)):=fun W=>X4m _ _ W
 obtain⟨W0,hW0⟩:∃W0,(w.alloc (.cells #[.int .i64 (most:Nat)] 3)).alloc (.cells #[.slice none 0 0] 30)=W0:=⟨_,rfl⟩
 have HX0:Hid (Ext w W0):=by unfold Hid;rw[←hW0];exact(Ext.alloc _ _).trans (Ext.alloc _ _)
 have HR0:Hid (Row1 W0 (w.heap.size+1) 30 [.slice none 0 0]):=by unfold Hid;rw[←hW0];exact Row1.made' (by simp) _ _
 have HR9:Hid (Row1 W0 w.heap.size 3 [.int .i64 (most:Nat)]):=by unfold Hid;rw[←hW0];exact(Row1.made w _ _).alloc _
 have hs0:W0.heap.size=w.heap.size+2:=by rw[←hW0];simp
 have HLT:Hid (tb<w.heap.size∧∀j,j<5→ts j<w.heap.size):=⟨ht.row.lt,fun j hj=>(ht.tree j hj).lt⟩
 have cC:Hid (∀(bt bw bf:Nat) (W:World),Ext W0 W→W0.heap.size≤bt→W0.heap.size≤bw→Row1 W bt 26 [tp tb]→Row1 W bw 3 [.int .i64 (way:Nat)]→Row1 W bf 23 [.slice A n c]→
   Calls Tryz.prog 129 #[.func (.func 66) #[] #[.pointer (some ⟨w.heap.size+1,0,none⟩),.pointer (some ⟨w.heap.size,0,none⟩)],.pointer (some ⟨bf,0,none⟩),.pointer (some ⟨bt,0,none⟩),.pointer (some ⟨bw,0,none⟩)] W fun e w'=>
    (∃v,e= .returned v)∧∃(A':Option Addr) (c' j:Nat) (F2:Nat→Prop),Row1 w' (w.heap.size+1) 30 [.slice A' j c']∧OwnL w' 0 32 11 OpD.cells (.slice A' j c') (all.take j)∧j≤k∧j≤all.length∧((j=k∨most≤j)∧j≤most)∧TblAt w' tb p ts F2∧PagerAt w' p F2 S∧Keeps F F2 w w'):=fun bt bw bf W hW hbt hbw h1 h2 h3=>by
  have hx:Ext w W:=HX0.out.trans hW
  have hz:=HX0.out.size
  have htF:TblAt W tb p ts (fun i=>F i∧i<w.heap.size):=TblAt.ext (F:=fun i=>F i∧i<w.heap.size) ⟨ht.row,ht.tree,fun q=>ht.out q.1,fun j hj q=>ht.outs j hj q.1⟩ hx
  have hpF:PagerAt W p (fun i=>F i∧i<w.heap.size) S:=PagerAt.ext (F:=fun i=>F i∧i<w.heap.size) hp.shrink hx
  have hzW:=hW.size
  refine(V2o (bl:=w.heap.size+1) (bm:=w.heap.size) (Gc:=fun i=>i=w.heap.size+1∨i=w.heap.size) (most:=(most:Int)) way fl W htF hpF hT hd hw h1 h2 h3 (fun q=>by have:=q.2;omega) (fun q=>by have:=q.2;omega) (hs.ext hx) hl h4 hf hal (by omega)
   ⟨⟨none,0,OwnL.nil _ _ _ _ _,HR0.out.ext hW HR0.out.lt,fun k q=>by cases q⟩,HR9.out.ext hW HR9.out.lt,.inl rfl,.inr rfl⟩ (fun i q=> ?_)).mono ?_
  ·have l1:=HLT.out.1
   have l2:=HLT.out.2
   refine⟨by omega,fun r=>by have:=r.2;omega,by omega,by omega,by omega,fun j hj e=>by have:=l2 j hj;omega⟩
  ·rintro e w' ⟨hv,F2,G2,j,hjk,hja,hjm,ht2,hp2,hfj,hk2⟩
   obtain⟨A',c',ho,hr,_⟩:=hfj.list
   have hlen:(all.take j).length=j:=by rw[List.length_take];omega
   rw[hlen]at ho hr
   refine⟨hv,A',c',j,F2,hr,ho,hjk,hja,by omega,ht2,hp2,⟨(Only.of hx).trans hk2.only (fun i q=> ?_),fun i q=> ?_⟩⟩
   ·rcases q with q | q | q
    ·exact .inl q.1
    ·exact .inr (by omega)
    ·exact .inr (by omega)
   ·rcases hk2.new i (.inl q)with (r | r | r) | r
    ·exact .inl r.1
    ·exact .inr (by omega)
    ·exact .inr (by omega)
    ·exact .inr (by omega)
 clear ht hp hT hd hs hl hf hs0
 have hnf:=fun(W:World) (ya yb:Array Value)=>Y9a 129 ya yb W
 have c9:W0.cell? ⟨w.heap.size,0,none⟩=some (.int .i64 (most:Nat)):=HR9.out.cell 0
 have q1:decide ((most:Int)≤0)=false:=decide_eq_false (by omega)
 have q2:¬(most:Int)≤0:=by omega
 go_enter Tryz.func20,Tryz.ntmps20
 go_upto_region 2 with fail
 clear hW0
 go_wp2_with (first
  | (go_at_call 65;(with_reducible refine(cF.out _).mono ?_);clear cF;rintro e w1 ⟨bt,bw,bf,rfl,hx1,hb1,hb2,hb3,hr1,hr2,hr3⟩;have HX1:=hD hx1;have HB1:=hD hb1;have HB2:=hD hb2;have HR1:=hD hr1;have HR2:=hD hr2;have HR3:=hD hr3;clear hx1 hr1 hr2 hr3 hb1 hb2 hb3)
  | (go_at_call 129;(with_reducible refine(cC.out _ _ _ _ HX1.out HB1.out HB2.out HR1.out HR2.out HR3.out).mono ?_);clear cC;rintro e w2 ⟨⟨v2,rfl⟩,A2,c2,j2,F2,hr0,ho2,hj1,hj2,hj3,ht2,hp2,hk2⟩;have HFIN:Hid (OwnL w2 0 32 11 OpD.cells (.slice A2 j2 c2) (all.take j2)∧j2≤k∧j2≤all.length∧((j2=k∨most≤j2)∧j2≤most)∧TblAt w2 tb p ts F2∧PagerAt w2 p F2 S∧Keeps F F2 w w2):=⟨ho2,hj1,hj2,hj3,ht2,hp2,hk2⟩;have c0:w2.cell? ⟨w.heap.size+1,0,none⟩=some (.slice A2 j2 c2):=hr0.cell 0;clear hr0 ho2 hj1 hj2 hj3 ht2 hp2 hk2))
 go_ret
 exact⟨A2,c2,j2,F2,rfl,HFIN.out⟩
def T1(tb:Nat)(ts:Nat→Nat)(bt:Nat):Nat→Prop:=fun i=>i=tb∨(∃j,j<5∧i=ts j)∨i=bt
section
variable (tb p:Nat) (ts:Nat→Nat) (bt bs by_ fb kb l way:Nat) (begin:ByteArray) (J Jx:List OpD→(Nat→Prop)→World→Prop) (all:List OpD) (k:Nat)
end
section
variable {tb p:Nat} {ts:Nat→Nat} {bt bs by_ fb kb l way:Nat} {begin:ByteArray} {J Jx:List OpD→(Nat→Prop)→World→Prop} {all:List OpD} {k:Nat}
end
theorem U1i{x y:UInt8}(h1:¬y<x)(h2:¬x<y):y=x:=by
 have a:=UInt8.not_lt.1 h1
 have b:=UInt8.not_lt.1 h2
 exact UInt8.le_antisymm b a
theorem Y3b:∀(p a b:List UInt8),p <+: b→¬a<p→¬b<a→p <+: a
 | [],a,_,_,_,_=>List.nil_prefix
 | x::p,[],_,_,h,_=>absurd (List.nil_lt_cons x p) h
 | x::p,y::a,[],h,_,_=>absurd h (by simp)
 | x::p,y::a,z::b,h,h1,h2=>by
   obtain⟨rfl,hp⟩:=List.cons_prefix_cons.1 h
   have e1:¬y<x:=fun q=>h1 (List.cons_lt_cons_iff.2 (.inl q))
   have e2:¬x<y:=fun q=>h2 (List.cons_lt_cons_iff.2 (.inl q))
   obtain rfl:=U1i e1 e2
   exact List.cons_prefix_cons.2 ⟨rfl,Y3b p a b hp (fun q=>h1 (List.cons_lt_cons_iff.2 (.inr ⟨rfl,q⟩))) (fun q=>h2 (List.cons_lt_cons_iff.2 (.inr ⟨rfl,q⟩)))⟩
theorem Y5m:∀(p a:List UInt8),p <+: a→¬a<p
 | [],a,_,h=>absurd h (List.not_lt_nil a)
 | x::p,[],h,_=>absurd h (by simp)
 | x::p,y::a,h,q=>by
   obtain⟨rfl,hp⟩:=List.cons_prefix_cons.1 h
   rcases List.cons_lt_cons_iff.1 q with r | ⟨_,r⟩
   ·exact absurd r (UInt8.lt_irrefl x)
   ·exact Y5m p a hp r
theorem Z6o(a b:List UInt8):Z2u (bts a) (bts b)=true↔b <+: a:=by rw[X5q,List.isPrefixOf_iff_prefix]
theorem X1t(a b:List UInt8):ltB (bts a) (bts b)=true↔a<b:=by rw[Z5x,Z1o,Z1o]
theorem Y6r{a b c:List UInt8}(h1:Z2u (bts c) (bts a)=true)(h2:ltB (bts b) (bts a)=false)(h3:ltB (bts c) (bts b)=false):Z2u (bts b) (bts a)=true:=
 (Z6o _ _).2 (Y3b a b c ((Z6o _ _).1 h1) (fun q=>by rw[(X1t b a).2 q]at h2;cases h2) (fun q=>by rw[(X1t c b).2 q]at h3;cases h3))
theorem X5p{a c:List UInt8}(h1:Z2u (bts c) (bts a)=true):ltB (bts c) (bts a)=false:=by
 cases h:ltB (bts c) (bts a)with
 | false=>rfl
 | true=>exact absurd ((X1t c a).1 h) (Y5m a c ((Z6o _ _).1 h1))
section
variable {S:StoreD} {Ts:Nat→TrD} {l all:List OpD} {way k:Nat} {fr:List UInt8}
theorem Finds.rise(hT:Tab S Ts (fun _=>l))(hw:way<5)(hf:Finds Ts way (bts fr) l all k):all.Pairwise (fun a b=>ltB (wayK way a) (wayK way b)=true):=by
 have h:=(TrS.rise (hT.tr way hw)).filter (fun x=> !ltB x.1 (bts fr))
 have e:(Ts way).list.filter (fun x=> !ltB x.1 (bts fr))=all.map (kvW way):=hf.outs
 rw[e,List.pairwise_map]at h
 exact h
theorem Finds.nodup(hT:Tab S Ts (fun _=>l))(hw:way<5)(hf:Finds Ts way (bts fr) l all k):all.Nodup:=
 (hf.rise hT hw).imp (fun {a b} h e=>by rw[e,Z1g]at h;cases h)
theorem Finds.mem_iff(hT:Tab S Ts (fun _=>l))(hw:way<5)(hf:Finds Ts way (bts fr) l all k)(o:OpD):o∈all.take k↔o∈l∧Z2u (wayK way o) (bts fr)=true:=by
 constructor
 ·intro h
  obtain⟨i,hi,rfl⟩:=List.mem_iff_getElem.1 h
  rw[List.length_take]at hi
  rw[List.getElem_take]
  exact⟨hf.mem _ (List.getElem_mem _),hf.under i (by omega) (by omega)⟩
 ·rintro⟨ho,hu⟩
  have h1:kvW way o∈Z1h (Ts way).list (bts fr):=List.mem_filter.2 ⟨(hT.mem way hw _).2 ⟨o,ho,rfl⟩,by
   rw[show ltB (kvW way o).1 (bts fr)=false from X5p hu];rfl⟩
  rw[hf.outs]at h1
  obtain⟨a,ha,e⟩:=List.mem_map.1 h1
  have hoc:=OpIn.of (hT.ok way hw o ho)
  have hac:=OpIn.of (hT.ok way hw a (hf.mem a ha))
  obtain rfl:a=o:=Y7u (hT.ids way hw) (hf.mem a ha) ho (Y1w (hac.way way) (hoc.way way) (congrArg Prod.fst e))
  obtain⟨i,hi,rfl⟩:=List.mem_iff_getElem.1 ha
  rcases Nat.lt_or_ge i k with q | q
  ·exact List.mem_iff_getElem.2 ⟨i,by rw[List.length_take];omega,by rw[List.getElem_take]⟩
  ·exfalso
   have hk:k<all.length:=by omega
   have hs:=hf.stop hk
   have hr:=hf.rise hT hw
   have h2:Z2u (wayK way all[k]) (bts fr)=true:=by
    by_cases e2:k=i
    ·subst e2;exact hu
    ·have h3:=List.pairwise_iff_getElem.1 hr k i hk hi (by omega)
     have h4:kvW way all[k]∈Z1h (Ts way).list (bts fr):=by rw[hf.outs];exact List.mem_map.2 ⟨_,List.getElem_mem _,rfl⟩
     have h5:=(List.mem_filter.1 h4).2
     exact Y6r hu (show ltB (wayK way all[k]) (bts fr)=false by simpa [kvW]using h5) (Z2z h3)
   rw[hs]at h2;cases h2
end
theorem V6f:∀(a b:List Int),a <+: b→keyL a <+: keyL b:=fun a b ⟨r,h⟩=>⟨keyL r,by rw[←h];unfold keyL;rw[List.flatMap_append]⟩
theorem X8p{way:Nat}{o:OpD}{fl:List Int}(h:fl <+: wayL way o):Z2u (wayK way o) (bts (keyL fl))=true:=(Z6o _ _).2 (V6f _ _ h)
theorem V2n{A:Option Addr}{n c bt bw bf tb:Nat}{ts:Nat→Nat}(way:Int)(l:List Int)(w:World)(y:Fn)(ya yb:Array Value)(hv:X0v w tb ts)(h1:Row1 w bt 26 [tp tb])(h2:Row1 w bw 3 [.int .i64 way])(h3:Row1 w bf 23 [.slice A n c])
 (hs:Sl w 1 (fun x cs=>cs=encN x) (.slice A n c) l)(hl:∀x∈l,In64 x)(hn:n≤1000000000000000000)(ho:4<l.length∨way<0∨5≤way):
  Calls Tryz.prog 129 #[.func y ya yb,.pointer (some ⟨bf,0,none⟩),.pointer (some ⟨bt,0,none⟩),.pointer (some ⟨bw,0,none⟩)] w fun e w'=>(∃v,e= .returned v)∧Ext w w':=by
 have cM:Hid (∀W,Ext w W→Calls Tryz.prog 70 #[tp tb] W fun e w'=>e= .returned (.bool true)∧W=w'):=fun W hW=>Z3j W (hv.ext hW hv.lt)
 obtain⟨s,ev,hof,hev⟩:∃s ev,OfR l= .tuple #[.string s,.int .i64 ev]∧(ev=22∨(ev=0∧decide (way<0)=true)∨(ev=0∧decide (way<0)=false∧decide (5≤way)=true)):=by
  unfold OfR
  by_cases h4:4<l.length
  ·rw[if_pos h4];exact⟨_,_,rfl,.inl rfl⟩
  ·rw[if_neg h4]
   by_cases hw:way<0
   ·exact⟨_,_,rfl,.inr (.inl ⟨rfl,decide_eq_true hw⟩)⟩
   ·exact⟨_,_,rfl,.inr (.inr ⟨rfl,decide_eq_false hw,decide_eq_true (by omega)⟩)⟩
 have cO:Hid (∀W,Ext w W→Calls Tryz.prog 68 #[.slice A n c] W fun e w'=>e= .returned (.tuple #[.string s,.int .i64 ev])∧Ext W w'):=fun W hW=>by rw[←hof];exact V0o l W (hs.ext hW) hl hn
 have HC:Hid (∀W,Ext w W→W.cell? ⟨bt,0,none⟩=some (tp tb)∧W.cell? ⟨bw,0,none⟩=some (.int .i64 way)∧W.cell? ⟨bf,0,none⟩=some (.slice A n c)):=fun W hW=>⟨(h1.ext hW h1.lt).cell 0,(h2.ext hW h2.lt).cell 0,(h3.ext hW h3.lt).cell 0⟩
 obtain⟨W0,hW0⟩:∃W0,w.alloc (.cells #[.func y ya yb] 46)=W0:=⟨_,rfl⟩
 have HX0:Hid (Ext w W0):=by unfold Hid;rw[←hW0];exact Ext.alloc _ _
 obtain⟨d1,d2,d3⟩:=HC.out _ HX0.out
 clear hv hs hl hof h1 h2 h3 ho
 rcases hev with rfl | ⟨rfl,q1⟩ | ⟨rfl,q1,q2⟩
 all_goals
  go_enter Tryz.func129,Tryz.ntmps129
  go_upto_region 1 with fail
  clear hW0
  go_wp2_with (first
   | (go_at_call 68;(with_reducible refine(cO.out _ HX0.out).mono ?_);clear cO;rintro e w1 ⟨rfl,hb1⟩;have HB1:Hid (Ext w w1):=HX0.out.trans hb1;clear hb1;obtain⟨e1,e2,e3⟩:=HC.out _ (HB1.out.trans (Ext.alloc _ (.cells #[.string s] 9))))
   | (go_at_call 70;(with_reducible refine(cM.out _ (HB1.out.trans (Ext.alloc _ _))).mono ?_);clear cM;rintro e w2 ⟨rfl,rfl⟩))
  refine bodyPost_ret (results_none rfl _ _ _) rfl ?_
  exact⟨⟨_,rfl⟩,HB1.out.trans (Ext.alloc _ _)⟩
theorem V2i{A:Option Addr}{n c tb:Nat}{ts:Nat→Nat}(way:Int)(most:Nat)(l:List Int)(w:World)(hv:X0v w tb ts)(hs:Sl w 1 (fun x cs=>cs=encN x) (.slice A n c) l)(hl:∀x∈l,In64 x)(hn:n≤1000000000000000000)(ho:most=0∨4<l.length∨way<0∨5≤way):
  Calls Tryz.prog 20 #[tp tb,.int .i64 way,.slice A n c,.int .i64 (most:Nat)] w fun e w'=>e= .returned (.slice none 0 0)∧Ext w w':=by
 have cF:Hid (∀W,Calls Tryz.prog 65 #[tp tb,.int .i64 way,.slice A n c] W (V8d (A:=A) (n:=n) (c:=c) (some ⟨tb,0,none⟩) way W)):=fun W=>X4m _ way W
 have cC:Hid (most≠0→∀(bt bw bf:Nat) (y:Fn) (ya yb:Array Value) (W:World),Ext w W→Row1 W bt 26 [tp tb]→Row1 W bw 3 [.int .i64 way]→Row1 W bf 23 [.slice A n c]→Calls Tryz.prog 129 #[.func y ya yb,.pointer (some ⟨bf,0,none⟩),.pointer (some ⟨bt,0,none⟩),.pointer (some ⟨bw,0,none⟩)] W fun e w'=>(∃v,e= .returned v)∧Ext W w'):=fun h0 bt bw bf y ya yb W hW h1 h2 h3=>V2n way l W y ya yb (hv.ext hW hv.lt) h1 h2 h3 (hs.ext hW) hl hn (ho.resolve_left h0)
 clear hv hs hl ho
 obtain⟨W0,hW0⟩:∃W0,(w.alloc (.cells #[.int .i64 (most:Nat)] 3)).alloc (.cells #[.slice none 0 0] 30)=W0:=⟨_,rfl⟩
 have HX0:Hid (Ext w W0):=by unfold Hid;rw[←hW0];exact(Ext.alloc _ _).trans (Ext.alloc _ _)
 have HR0:Hid (Row1 W0 (w.heap.size+1) 30 [.slice none 0 0]):=by unfold Hid;rw[←hW0];exact Row1.made' (by simp) _ _
 have HR9:Hid (Row1 W0 w.heap.size 3 [.int .i64 (most:Nat)]):=by unfold Hid;rw[←hW0];exact(Row1.made w _ _).alloc _
 have hnf:=fun(W:World) (ya yb:Array Value)=>Y9a 129 ya yb W
 have c9:W0.cell? ⟨w.heap.size,0,none⟩=some (.int .i64 (most:Nat)):=HR9.out.cell 0
 go_enter Tryz.func20,Tryz.ntmps20
 go_upto_region 2 with fail
 clear hW0
 by_cases h0:most=0
 ·have q1:decide ((most:Int)≤0)=true:=decide_eq_true (by omega)
  have q2:(most:Int)≤0:=by omega
  clear cC h0
  go_wp2_with fail
  go_ret
  exact⟨rfl,HX0.out⟩
 ·have q1:decide ((most:Int)≤0)=false:=decide_eq_false (by omega)
  have q2:¬(most:Int)≤0:=by omega
  have cC:=hD (cC.out h0)
  clear h0
  go_wp2_with (first
   | (go_at_call 65;(with_reducible refine(cF.out _).mono ?_);clear cF;rintro e w1 ⟨bt,bw,bf,rfl,hx1,_,_,_,hr1,hr2,hr3⟩;have HX1:=hD hx1;have HR1:=hD hr1;have HR2:=hD hr2;have HR3:=hD hr3;clear hx1 hr1 hr2 hr3)
   | (go_at_call 129;(with_reducible refine(cC.out _ _ _ _ _ _ _ (HX0.out.trans HX1.out) HR1.out HR2.out HR3.out).mono ?_);clear cC;rintro e w2 ⟨⟨v2,rfl⟩,hx2⟩;have HX2:=hD hx2;clear hx2;have c0:w2.cell? ⟨w.heap.size+1,0,none⟩=some (.slice none 0 0):=(HR0.out.ext (HX1.out.trans HX2.out) HR0.out.lt).cell 0))
  go_ret
  exact⟨rfl,(HX0.out.trans HX1.out).trans HX2.out⟩
def opAa:OpD:=⟨1,0,3,6,13,0,0,false,0,9,0⟩
def opAb:OpD:=⟨2,0,3,6,13,0,0,false,0,4,0⟩
theorem V9t:Z2e opAa=0:=by decide
theorem V9s:Z2e opAb=0:=by decide
theorem X3h:∀(l r:List KV),Z8c l→Z8c r→(∀x,x∈l↔x∈r)→l=r
 | [],[],_,_,_=>rfl
 | [],y::r,_,_,h=>absurd ((h y).2 List.mem_cons_self) (by simp)
 | x::l,[],_,_,h=>absurd ((h x).1 List.mem_cons_self) (by simp)
 | x::l,y::r,hl,hr,h=>by
   have h1:=List.pairwise_cons.1 hl
   have h2:=List.pairwise_cons.1 hr
   have e:x=y:=by
    rcases List.mem_cons.1 ((h x).1 List.mem_cons_self)with e | hx
    ·exact e
    ·rcases List.mem_cons.1 ((h y).2 List.mem_cons_self)with e | hy
     ·exact e.symm
     ·have a:=h1.1 y hy
      have b:=h2.1 x hx
      rw[Z2z a]at b
      cases b
   subst e
   rw[X3h l r h1.2 h2.2 (fun z=>⟨fun hz=>by
    rcases List.mem_cons.1 ((h z).1 (List.mem_cons_of_mem _ hz))with e | q
    ·have a:=h1.1 z hz;subst e;rw[Z1g]at a;cases a
    ·exact q,fun hz=>by
    rcases List.mem_cons.1 ((h z).2 (List.mem_cons_of_mem _ hz))with e | q
    ·have a:=h2.1 z hz;subst e;rw[Z1g]at a;cases a
    ·exact q⟩)]
theorem U1n:ltB (wayK 1 opAb) (wayK 1 opAa)=true:=by kernel_rfl
theorem U0s:ltB (wayK 1 opAa) (bts (keyL [3]))=false:=by kernel_rfl
theorem U0m:ltB (wayK 1 opAb) (bts (keyL [3]))=false:=by kernel_rfl
theorem U0r:Z2u (wayK 1 opAa) (bts (keyL [3]))=true:=by kernel_rfl
theorem U0l:Z2u (wayK 1 opAb) (bts (keyL [3]))=true:=by kernel_rfl
theorem X2n{S:StoreD}{Ts:Nat→TrD}(hT:Tab S Ts (fun _=> [opAb,opAa])):Finds Ts 1 (bts (keyL [3])) [opAb,opAa] [opAb,opAa] 2:=by
 have hl:(Ts 1).list= [kvW 1 opAb,kvW 1 opAa]:=by
  refine X3h _ _ (hT.tr 1 (by omega)).rise (List.pairwise_cons.2 ⟨fun x hx=> ?_,List.pairwise_cons.2 ⟨fun x hx=>(by cases hx),List.Pairwise.nil⟩⟩) (fun x=> ?_)
  ·rw[List.mem_singleton]at hx;subst hx;exact U1n
  ·rw[hT.mem 1 (by omega)]
   constructor
   ·rintro⟨o,ho,rfl⟩
    rcases List.mem_cons.1 ho with rfl | ho
    ·exact List.mem_cons_self
    ·rw[List.mem_singleton]at ho;subst ho;exact List.mem_cons_of_mem _ List.mem_cons_self
   ·intro hx
    rcases List.mem_cons.1 hx with rfl | hx
    ·exact⟨opAb,List.mem_cons_self,rfl⟩
    ·rw[List.mem_singleton]at hx;subst hx;exact⟨opAa,List.mem_cons_of_mem _ List.mem_cons_self,rfl⟩
 refine⟨?_,fun o ho=>ho,fun i h hi=> ?_,fun h=>absurd h (by simp),by simp⟩
 ·rw[hl]
  refine Z2m (fun x hx=> ?_)
  rcases List.mem_cons.1 hx with rfl | hx
  ·show(!ltB (wayK 1 opAb) _)=true;rw[U0m];rfl
  ·rw[List.mem_singleton]at hx;subst hx;show(!ltB (wayK 1 opAa) _)=true;rw[U0s];rfl
 ·match i,hi with
  | 0,_=>exact U0l
  | 1,_=>exact U0r
theorem X8y{n room:Nat}(hf:FullV (Z1j n room)):Tab (Z1j n room) (fun _=> .no) (fun _=> []):=
 ⟨X3n hf,fun i _=>X3m n room i,fun _ _ _ _ _ b hb=>absurd hb (by simp[TrD.pages]),fun _ _ o ho=>absurd ho (by simp),fun _ _=>List.Pairwise.nil,fun _ _ x=>⟨fun h=>absurd h (by simp[TrD.list]),fun⟨o,ho,_⟩=>absurd ho (by simp)⟩⟩
theorem Y9w{Ts:Nat→TrD}{m:Nat}:∀k,(∀i,i<k→depT (Ts i)≤m)→Z4p Ts k≤k*(m+1)
 | 0,_=>by simp[Z4p]
 | k+1,h=>by
   have h1:=Y9w k (fun i hi=>h i (by omega))
   have h2:=h k (by omega)
   have h3:=Y2e (Ts k)
   show Z4p Ts k+(Ts k).need≤_
   rw[Nat.add_mul]
   omega
structure PutDone (tb p:Nat) (ts:Nat→Nat) (o:OpD) (l:List OpD) (m:Nat) (S:StoreD) (F:Nat→Prop) (w w':World) (S':StoreD) (Ts':Nat→TrD) (F':Nat→Prop):Prop where
 at_:TblAt w' tb p ts F'
 pag:PagerAt w' p F' S'
 keep:Keeps F F' w w'
 tab:Tab S' Ts' (fun _=>o::l)
 dep:∀i,i<5→depT (Ts' i)≤m+1
 room:Z0z S≤Z0z S'+5*(m+1)
theorem Y9j{tb p:Nat}{ts:Nat→Nat}{F:Nat→Prop}{S:StoreD}{Ts:Nat→TrD}{l:List OpD}(o:OpD)(m:Nat)(w:World)(ht:TblAt w tb p ts F)(hp:PagerAt w p F S)(hT:Tab S Ts (fun _=>l))(ho:Z2e o=0)
 (hno:∀x∈l,x.id≠o.id)(hd:∀i,i<5→depT (Ts i)≤m)(hm:m≤31)(hr:5*(m+1)≤Z0z S):
  Calls Tryz.prog 55 #[tp tb,o.val] w fun e w'=>e= .returned (.int .i64 0)∧∃S' Ts' F',PutDone tb p ts o l m S F w w' S' Ts' F':=by
 have hin:=OpIn.of ho
 have hid:In64 o.id:=by have:=hin.id;unfold In64;omega
 have hg:getL l o.id=none:=by
  unfold getL
  rw[List.find?_eq_none]
  intro x hx
  have:=hno x hx
  simpa using this
 have hn:=Y9w 5 hd
 refine(X8t o w ht hp ho (fun W F1 h1 h2=>(Y2n o.id W h1 h2 hT (by have:=hd 0 (by omega);omega) hid hg).mono ?_) hT (fun i _=>hno) (fun i hi=>by have:=hd i hi;omega) (by omega)).mono ?_
 ·rintro e w' ⟨rfl,F',h3,h4,h5⟩
  exact⟨6,.inr rfl,rfl,F',h3,h4,h5⟩
 ·rintro e w' ⟨rfl,S',Ts',F',hk⟩
  refine⟨rfl,S',Ts',F',hk.at_,hk.pag,hk.keep,hk.tab.congr (fun i _=>rfl) (fun i hi=>by rw[if_pos hi]),fun i hi=> ?_,by have:=hk.room;omega⟩
  obtain⟨Sa,Sb,_,_,hb⟩:=hk.done i hi
  have:=X9s hb
  have:=hd i hi
  omega
end
end Go.Proofs.YtmiolpfanlpfnaaGreat
