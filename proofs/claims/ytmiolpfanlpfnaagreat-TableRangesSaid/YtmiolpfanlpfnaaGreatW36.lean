/- What a statement of layer 13 finds in a table: as many operations as are asked for, out of those under a key. Conditions: a table's trees. -/
import Derived.Test.YtmiolpfanlpfnaaGreatW35
set_option maxRecDepth 100000
set_option maxHeartbeats 4000000
set_option linter.unusedSimpArgs false
set_option linter.unusedVariables false
namespace Go.Proofs.YtmiolpfanlpfnaaGreat
open Go.RowKit
theorem X2o{A:Option Addr}{n c tb p:Nat}{ts:Nat->Nat}{F:Nat->Prop}{S:StoreD}{Ts:Nat->TrD}{l all:List OpD}{k:Nat}(way most:Nat)(fl:List Int)(w:World)
 (ht:TblAt w tb p ts F)(hp:PagerAt w p F S)(hT:Tab S Ts (fun _=>l))(hd:∀i,i<5->depT (Ts i)<=31)(hw:way<5)
 (hs:Sl w 1 (fun x cs=>cs=encN x) (.slice A n c) fl)(hl:∀x∈fl,In64 x)(h4:fl.length<=4)(hf:Finds Ts way (bts (keyL fl)) l all k)(hal:all.length<=100000)(hm:0<most):
  Calls Tryz.prog 20 #[tp tb,.int .i64 (way:Nat),.slice A n c,.int .i64 (most:Nat)] w fun e w'=>
   ∃(A':Option Addr) (c' j:Nat) (F2:Nat->Prop),e= .returned (.slice A' j c')/\OwnL w' 0 32 11 OpD.cells (.slice A' j c') (all.take j)/\j<=k/\j<=all.length/\((j=k\/most<=j)/\j<=most)/\TblAt w' tb p ts F2/\PagerAt w' p F2 S/\Keeps F F2 w w':=by
 have cF:Hid (∀W,Calls Tryz.prog 65 #[tp tb,.int .i64 (way:Nat),.slice A n c] W (U1l (A:=A) (n:=n) (c:=c) (some ⟨tb,0,none⟩) (way:Nat) W)):=fun W=>V7t _ _ W;obtain⟨W0,hW0⟩:∃W0,(w.alloc (.cells #[.int .i64 (most:Nat)] 3)).alloc (.cells #[.slice none 0 0] 30)=W0:=⟨_,rfl⟩;have HX0:Hid (Ext w W0):=by unfold Hid;rw[<-hW0];exact(Ext.alloc _ _).trans (Ext.alloc _ _)
 have HR0:Hid (Row1 W0 (w.heap.size+1) 30 [.slice none 0 0]):=by unfold Hid;rw[<-hW0];exact Row1.made' (by simp) _ _
 have HR9:Hid (Row1 W0 w.heap.size 3 [.int .i64 (most:Nat)]):=by unfold Hid;rw[<-hW0];exact(Row1.made w _ _).alloc _
 have hs0:W0.heap.size=w.heap.size+2:=by rw[<-hW0];simp
 have HLT:Hid (tb<w.heap.size/\∀j,j<5->ts j<w.heap.size):=⟨ht.row.lt,fun j hj=>(ht.tree j hj).lt⟩;have cC:Hid (∀(bt bw bf:Nat) (W:World),Ext W0 W->W0.heap.size<=bt->W0.heap.size<=bw->Row1 W bt 26 [tp tb]->Row1 W bw 3 [.int .i64 (way:Nat)]->Row1 W bf 23 [.slice A n c]->
   Calls Tryz.prog 129 #[.func (.func 66) #[] #[.pointer (some ⟨w.heap.size+1,0,none⟩),.pointer (some ⟨w.heap.size,0,none⟩)],.pointer (some ⟨bf,0,none⟩),.pointer (some ⟨bt,0,none⟩),.pointer (some ⟨bw,0,none⟩)] W fun e w'=>
    (∃v,e= .returned v)/\∃(A':Option Addr) (c' j:Nat) (F2:Nat->Prop),Row1 w' (w.heap.size+1) 30 [.slice A' j c']/\OwnL w' 0 32 11 OpD.cells (.slice A' j c') (all.take j)/\j<=k/\j<=all.length/\((j=k\/most<=j)/\j<=most)/\TblAt w' tb p ts F2/\PagerAt w' p F2 S/\Keeps F F2 w w'):=fun bt bw bf W hW hbt hbw h1 h2 h3=>by
  have hx:Ext w W:=HX0.out.trans hW;have hz:=HX0.out.size;have htF:TblAt W tb p ts (fun i=>F i/\i<w.heap.size):=TblAt.ext (F:=fun i=>F i/\i<w.heap.size) ⟨ht.row,ht.tree,fun q=>ht.out q.1,fun j hj q=>ht.outs j hj q.1⟩ hx;have hpF:PagerAt W p (fun i=>F i/\i<w.heap.size) S:=PagerAt.ext (F:=fun i=>F i/\i<w.heap.size) hp.shrink hx;have hzW:=hW.size;refine(V3f (bl:=w.heap.size+1) (bm:=w.heap.size) (Gc:=fun i=>i=w.heap.size+1\/i=w.heap.size) (most:=(most:Int)) way fl W htF hpF hT hd hw h1 h2 h3 (fun q=>by have:=q.2;omega) (fun q=>by have:=q.2;omega) (hs.ext hx) hl h4 hf hal (by omega)
   ⟨⟨none,0,OwnL.nil _ _ _ _ _,HR0.out.ext hW HR0.out.lt,fun k q=>by cases q⟩,HR9.out.ext hW HR9.out.lt,.inl rfl,.inr rfl⟩ (fun i q=> ?_)).mono ?_
  ·have l1:=HLT.out.1;have l2:=HLT.out.2;refine⟨by omega,fun r=>by have:=r.2;omega,by omega,by omega,by omega,fun j hj e=>by have:=l2 j hj;omega⟩
  ·rintro e w' ⟨hv,F2,G2,j,hjk,hja,hjm,ht2,hp2,hfj,hk2⟩;obtain⟨A',c',ho,hr,_⟩:=hfj.list;have hlen:(all.take j).length=j:=by rw[aD];omega
   rw[hlen]at ho hr;refine⟨hv,A',c',j,F2,hr,ho,hjk,hja,by omega,ht2,hp2,⟨(Only.of hx).trans hk2.only (fun i q=> ?_),fun i q=> ?_⟩⟩
   ·rcases q with q | q | q
    ·exact .inl q.1
    ·exact .inr (by omega)
    ·exact .inr (by omega)
   ·rcases hk2.new i (.inl q)with (r | r | r) | r
    ·exact .inl r.1
    ·exact .inr (by omega)
    ·exact .inr (by omega)
    ·exact .inr (by omega)
 clear ht hp hT hd hs hl hf hs0;have hnf:=fun(W:World) (ya yb:Array Value)=>X9w 129 ya yb W;have c9:W0.cell? ⟨w.heap.size,0,none⟩=some (.int .i64 (most:Nat)):=HR9.out.cell 0;have q1:decide ((most:Int)<=0)=false:=aM;have q2:¬(most:Int)<=0:=by omega
 go_enter Tryz.func20,Tryz.ntmps20;go_upto_region 2 with fail;clear hW0;go_wp2_with (first
  | (go_at_call 65;(with_reducible refine(cF.out _).mono ?_);clear cF;rintro e w1 ⟨bt,bw,bf,rfl,hx1,hb1,hb2,hb3,hr1,hr2,hr3⟩;have HX1:=hD hx1;have HB1:=hD hb1;have HB2:=hD hb2;have HR1:=hD hr1;have HR2:=hD hr2;have HR3:=hD hr3;clear hx1 hr1 hr2 hr3 hb1 hb2 hb3)
  | (go_at_call 129;(with_reducible refine(cC.out _ _ _ _ HX1.out HB1.out HB2.out HR1.out HR2.out HR3.out).mono ?_);clear cC;rintro e w2 ⟨⟨v2,rfl⟩,A2,c2,j2,F2,hr0,ho2,hj1,hj2,hj3,ht2,hp2,hk2⟩;have HFIN:Hid (OwnL w2 0 32 11 OpD.cells (.slice A2 j2 c2) (all.take j2)/\j2<=k/\j2<=all.length/\((j2=k\/most<=j2)/\j2<=most)/\TblAt w2 tb p ts F2/\PagerAt w2 p F2 S/\Keeps F F2 w w2):=⟨ho2,hj1,hj2,hj3,ht2,hp2,hk2⟩;have c0:w2.cell? ⟨w.heap.size+1,0,none⟩=some (.slice A2 j2 c2):=hr0.cell 0;clear hr0 ho2 hj1 hj2 hj3 ht2 hp2 hk2))
 go_ret;exact⟨A2,c2,j2,F2,rfl,HFIN.out⟩
def opAa:OpD:=⟨1,0,3,6,13,0,0,false,0,9,0⟩
def opAb:OpD:=⟨2,0,3,6,13,0,0,false,0,4,0⟩
theorem U0h:Z2i opAa=0:=by decide
theorem U0g:Z2i opAb=0:=by decide
theorem X3s:∀(l r:List KV),Z8m l->Z8m r->(∀x,x∈l↔x∈r)->l=r
 | [],[],_,_,_=>rfl
 | [],y::r,_,_,h=>absurd ((h y).2 List.mem_cons_self) (by simp)
 | x::l,[],_,_,h=>absurd ((h x).1 List.mem_cons_self) (by simp)
 | x::l,y::r,hl,hr,h=>by
   have h1:=List.pairwise_cons.1 hl;have h2:=List.pairwise_cons.1 hr;have e:x=y:=by
    rcases List.mem_cons.1 ((h x).1 List.mem_cons_self)with e | hx
    ·exact e
    ·rcases List.mem_cons.1 ((h y).2 List.mem_cons_self)with e | hy
     ·exact e.symm
     ·have a:=h1.1 y hy;have b:=h2.1 x hx;rw[Z4f a]at b;cases b
   subst e;rw[X3s l r h1.2 h2.2 (fun z=>⟨fun hz=>by
    rcases List.mem_cons.1 ((h z).1 (List.mem_cons_of_mem _ hz))with e | q
    ·have a:=h1.1 z hz;subst e;rw[Z1h]at a;cases a
    ·exact q,fun hz=>by
    rcases List.mem_cons.1 ((h z).2 (List.mem_cons_of_mem _ hz))with e | q
    ·have a:=h2.1 z hz;subst e;rw[Z1h]at a;cases a
    ·exact q⟩)]
theorem U2b:ltB (wayK 1 opAb) (wayK 1 opAa)=true:=by kernel_rfl
theorem U1h:ltB (wayK 1 opAa) (bts (keyL [3]))=false:=by kernel_rfl
theorem U1b:ltB (wayK 1 opAb) (bts (keyL [3]))=false:=by kernel_rfl
theorem U1g:Z4k (wayK 1 opAa) (bts (keyL [3]))=true:=by kernel_rfl
theorem U1a:Z4k (wayK 1 opAb) (bts (keyL [3]))=true:=by kernel_rfl
theorem X2y{S:StoreD}{Ts:Nat->TrD}(hT:Tab S Ts (fun _=> [opAb,opAa])):Finds Ts 1 (bts (keyL [3])) [opAb,opAa] [opAb,opAa] 2:=by
 have hl:(Ts 1).list= [kvW 1 opAb,kvW 1 opAa]:=by
  refine X3s _ _ (hT.tr 1 (by omega)).rise (List.pairwise_cons.2 ⟨fun x hx=> ?_,List.pairwise_cons.2 ⟨fun x hx=>(by cases hx),List.Pairwise.nil⟩⟩) (fun x=> ?_)
  ·rw[List.mem_singleton]at hx;subst hx;exact U2b
  ·rw[hT.mem 1 (by omega)];constructor
   ·rintro⟨o,ho,rfl⟩;rcases List.mem_cons.1 ho with rfl | ho
    ·exact List.mem_cons_self
    ·rw[List.mem_singleton]at ho;subst ho;exact List.mem_cons_of_mem _ List.mem_cons_self
   ·intro hx;rcases List.mem_cons.1 hx with rfl | hx
    ·exact⟨opAb,List.mem_cons_self,rfl⟩
    ·rw[List.mem_singleton]at hx;subst hx;exact⟨opAa,List.mem_cons_of_mem _ List.mem_cons_self,rfl⟩
 refine⟨?_,fun o ho=>ho,fun i h hi=> ?_,fun h=>absurd h (by simp),by simp⟩
 ·rw[hl];refine Z2q (fun x hx=> ?_);rcases List.mem_cons.1 hx with rfl | hx
  ·show(!ltB (wayK 1 opAb) _)=true;rw[U1b];rfl
  ·rw[List.mem_singleton]at hx;subst hx;show(!ltB (wayK 1 opAa) _)=true;rw[U1h];rfl
 ·match i,hi with
  | 0,_=>exact U1a
  | 1,_=>exact U1g
theorem X9p{n room:Nat}(hf:FullV (Z1j n room)):Tab (Z1j n room) (fun _=> .no) (fun _=> []):=
 ⟨X3y hf,fun i _=>X3x n room i,fun _ _ _ _ _ b hb=>absurd hb (by simp[TrD.pages]),fun _ _ o ho=>absurd ho (by simp),fun _ _=>List.Pairwise.nil,fun _ _ x=>⟨fun h=>absurd h (by simp[TrD.list]),fun⟨o,ho,_⟩=>absurd ho (by simp)⟩⟩
theorem X0h{Ts:Nat->TrD}{m:Nat}:∀k,(∀i,i<k->depT (Ts i)<=m)->Z4x Ts k<=k*(m+1)
 | 0,_=>by simp[Z4x]
 | k+1,h=>by have h1:=X0h k (fun i hi=>h i (by omega));have h2:=h k (by omega);have h3:=Y2j (Ts k);show Z4x Ts k+(Ts k).need<=_;rw[Nat.add_mul];omega
structure PutDone (tb p:Nat) (ts:Nat->Nat) (o:OpD) (l:List OpD) (m:Nat) (S:StoreD) (F:Nat->Prop) (w w':World) (S':StoreD) (Ts':Nat->TrD) (F':Nat->Prop):Prop where
 at_:TblAt w' tb p ts F'
 pag:PagerAt w' p F' S'
 keep:Keeps F F' w w'
 tab:Tab S' Ts' (fun _=>o::l)
 dep:∀i,i<5->depT (Ts' i)<=m+1
 room:Z0z S<=Z0z S'+5*(m+1)
theorem Y9u{tb p:Nat}{ts:Nat->Nat}{F:Nat->Prop}{S:StoreD}{Ts:Nat->TrD}{l:List OpD}(o:OpD)(m:Nat)(w:World)(ht:TblAt w tb p ts F)(hp:PagerAt w p F S)(hT:Tab S Ts (fun _=>l))(ho:Z2i o=0)
 (hno:∀x∈l,x.id≠o.id)(hd:∀i,i<5->depT (Ts i)<=m)(hm:m<=31)(hr:5*(m+1)<=Z0z S):
  Calls Tryz.prog 55 #[tp tb,o.val] w fun e w'=>e= .returned (.int .i64 0)/\∃S' Ts' F',PutDone tb p ts o l m S F w w' S' Ts' F':=by
 have hin:=OpIn.of ho;have hid:In64 o.id:=by have:=hin.id;unfold In64;omega
 have hg:getL l o.id=none:=by unfold getL;rw[List.find?_eq_none];intro x hx;have:=hno x hx;simpa using this
 have hn:=X0h 5 hd;refine(X9k o w ht hp ho (fun W F1 h1 h2=>(Y2u o.id W h1 h2 hT (by have:=hd 0 (by omega);omega) hid hg).mono ?_) hT (fun i _=>hno) (fun i hi=>by have:=hd i hi;omega) (by omega)).mono ?_
 ·rintro e w' ⟨rfl,F',h3,h4,h5⟩;exact⟨6,.inr rfl,rfl,F',h3,h4,h5⟩
 ·rintro e w' ⟨rfl,S',Ts',F',hk⟩;refine⟨rfl,S',Ts',F',hk.at_,hk.pag,hk.keep,hk.tab.congr (fun i _=>rfl) (fun i hi=>by rw[if_pos hi]),fun i hi=> ?_,by have:=hk.room;omega⟩;obtain⟨Sa,Sb,_,_,hb⟩:=hk.done i hi;have:=V0k hb;have:=hd i hi;omega
end Go.Proofs.YtmiolpfanlpfnaaGreat
