/- The acts of a statement of layer 13, one behind the other; what a table finds behind them. Conditions: acts that can be read. -/
import Derived.Test.YtmiolpfanlpfnaaGreatT49
import Derived.Test.YtmiolpfanlpfnaaGreatT43
set_option linter.unusedSimpArgs false
set_option linter.unusedVariables false
namespace Go.Proofs.YtmiolpfanlpfnaaGreat
open Go.RowKit
def RAct(a:Int×OpD)(cs:List Value):Prop:=cs=Y7m a.1 a.2
def V3e(l:List OpD)(a:Int×OpD):List OpD:=if a.1<2 then actL a.1 a.2 l else l
def X6v(acts:List (Int×OpD)):List OpD:=acts.foldl V3e []
theorem X6u(acts:List (Int×OpD))(k:Nat)(h:k<acts.length):X6v (acts.take (k+1))=V3e (X6v (acts.take k)) acts[k]:=by
 unfold X6v
 rw[List.take_add_one,List.getElem?_eq_getElem h,List.foldl_append]
 rfl
structure LawI (w0:World) (tb p bl:Nat) (ts:Nat→Nat) (l:List OpD) (t:Nat) (F:Nat→Prop) (w:World):Prop where
 doz:DoZ tb p bl ts l l t F w
 new:∀i,F i→w0.heap.size≤i
 ext:Ext w0 w
 bl:w0.heap.size≤bl
section
variable {w0 w w':World} {tb p bl:Nat} {ts:Nat→Nat} {l:List OpD} {t:Nat} {F:Nat→Prop}
theorem LawI.to(h:LawI w0 tb p bl ts l t F w)(hx:Ext w w'):LawI w0 tb p bl ts l t F w':=⟨h.doz.ext hx,h.new,h.ext.trans hx,h.bl⟩
theorem LawI.skip(h:LawI w0 tb p bl ts l t F w):LawI w0 tb p bl ts l (t+1) F w:=by
 obtain⟨C,S,Ts,h1,h2,h3⟩:=h.doz.ex
 have hd:=h.doz
 exact⟨⟨⟨C,S,Ts,h1.more (Nat.le_succ t),h2.more (Nat.le_succ t),h3⟩,hd.at_,hd.list,hd.nl,hd.lt,hd.ap,Nat.le_succ_of_le hd.len⟩,h.new,h.ext,h.bl⟩
theorem LawI.more{u:Nat}(h:LawI w0 tb p bl ts l t F w)(hu:t≤u):LawI w0 tb p bl ts l u F w:=by
 induction u with
 | zero=>obtain rfl:t=0:=Nat.le_zero.1 hu;exact h
 | succ u ih=>
   by_cases e:t=u+1
   ·subst e;exact h
   ·exact(ih (by omega)).skip
theorem LawI.list(h:LawI w0 tb p bl ts l t F w):∃A c,Row1 w bl 30 [.slice A l.length c]∧Sl w 11 ROp (.slice A l.length c) l:=by
 obtain⟨A,n,c,h1,h2,_⟩:=h.doz.list
 have hf:=h2.form
 obtain⟨A',c',e⟩:=hf
 injection e with e1 e2 e3
 subst e1 e2 e3
 exact⟨_,_,h1,h2.sl (fun _=>rfl) (fun _=>rfl)⟩
theorem LawI.len(h:LawI w0 tb p bl ts l t F w):l.length≤t:=h.doz.len
theorem LawI.act(kind:Int)(o:OpD)(h:LawI w0 tb p bl ts l t F w)(hk:kind≠2)(hid:In64 o.id)(hres:In64 o.result)(ht:t<40):
  Calls Tryz.prog 17 #[.pointer (some ⟨tb,0,none⟩),.pointer (some ⟨p,0,none⟩),.pointer (some ⟨bl,0,none⟩),actV kind o] w fun e w'=>e= .returned (.bool true)∧∃F',LawI w0 tb p bl ts (actL kind o l) (t+1) F' w':=by
 refine(X6h kind o w h.doz hk hid hres ht).mono ?_
 rintro e w' ⟨rfl,F',h1,h2⟩
 have h3:=h2.fresh h.ext (fun i q=>q.elim (h.new i) (fun e=>e▸h.bl))
 exact⟨rfl,F',h1,fun i q=>h3.2 i (.inl q),h3.1,h.bl⟩
theorem LawI.start(ht:TblAt w tb p ts F)(hb:Begun w0 p F 1800 860 w):LawI w0 tb p w.heap.size ts [] 0 (fun i=>F i∧i<w.heap.size) (w.alloc (.cells #[.slice none 0 0] 30)):=by
 have hx:Ext w (w.alloc (.cells #[.slice none 0 0] 30)):=Ext.alloc _ _
 have hp:=hb.pag
 refine⟨⟨⟨Z1j 1800 860,Z1j 1800 860,fun _=> .no,⟨X7w hp.full (by decide),Soil.start _ _⟩,⟨⟨rfl,rfl⟩,rfl,rfl,by decide⟩,hp.shrink.ext hx⟩,?_,⟨none,0,0,Row1.made _ _ _,OwnL.nil _ _ _ _ _,fun k q=>by cases q⟩,fun q=>Nat.lt_irrefl _ q.2,fun i q=> ?_,⟨?_,fun j hj=> ?_⟩,Nat.le_refl _⟩,fun i q=>hb.new i q.1,hb.ext.trans hx,hb.ext.size⟩
 ·exact TblAt.ext (F:=fun i=>F i∧i<w.heap.size) ⟨ht.row,ht.tree,fun q=>ht.out q.1,fun j hj q=>ht.outs j hj q.1⟩ hx
 ·rw[World.size_alloc];have:=q.2;omega
 ·have:=ht.row.lt;omega
 ·have:=(ht.tree j hj).lt;omega
theorem LawI.found{A:Option Addr}{n c:Nat}(way most:Nat)(fl:List Int)(h:LawI w0 tb p bl ts l t F w)(ht:t≤40)(hw:way<5)(hs:Sl w 1 (fun x cs=>cs=encN x) (.slice A n c) fl)(hl:∀x∈fl,In64 x)(h4:fl.length≤4)(hm:0<most):
  ∃(S:StoreD) (Ts:Nat→TrD) (all:List OpD) (k:Nat),Tab S Ts (fun _=>l)∧Finds Ts way (bts (keyL fl)) l all k∧Calls Tryz.prog 20 #[.pointer (some ⟨tb,0,none⟩),.int .i64 (way:Nat),.slice A n c,.int .i64 (most:Nat)] w fun e w'=>
   ∃(A':Option Addr) (c' j:Nat) (F2:Nat→Prop),e= .returned (.slice A' j c')∧Sl w' 11 ROp (.slice A' j c') (all.take j)∧j≤k∧((j=k∨most≤j)∧j≤most)∧LawI w0 tb p bl ts l t F2 w'∧Only F w w':=by
 obtain⟨C,S,Ts,h1,h2,h3⟩:=h.doz.ex
 obtain⟨all,k,hf⟩:=h1.tab.finds hw (bts (keyL fl))
 have hal:all.length≤l.length:=(hf.nodup h1.tab hw).length_le_of_subset (fun o ho=>hf.mem o ho)
 refine⟨S,Ts,all,k,h1.tab,hf,(Y3n way most fl w h.doz.at_ h3 h1.tab (fun i hi=>h1.dep ht i hi) hw hs hl h4 hf (by have:=h.len;omega) hm).mono ?_⟩
 rintro e w' ⟨A',c',j,F2,rfl,ho,hj1,hj2,hj3,ht2,hp2,hk2⟩
 obtain⟨F3,g1,g2⟩:=h.doz.after h1 h2 ht2 hp2 hk2 h.len
 have g3:=g2.fresh h.ext (fun i q=>q.elim (h.new i) (fun e=>e▸h.bl))
 exact⟨A',c',j,F3,rfl,ho.sl (fun _=>rfl) (fun _=>rfl),hj1,hj3,⟨g1,fun i q=>g3.2 i (.inl q),g3.1,h.bl⟩,hk2.only⟩
end
end Go.Proofs.YtmiolpfanlpfnaaGreat
