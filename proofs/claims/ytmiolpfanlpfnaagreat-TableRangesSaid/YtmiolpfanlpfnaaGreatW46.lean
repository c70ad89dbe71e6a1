/- The acts of a statement of layer 13, one behind the other; what a table finds behind them. Conditions: acts that can be read. -/
import Derived.Test.YtmiolpfanlpfnaaGreatW45
import Derived.Test.YtmiolpfanlpfnaaGreatW36
set_option linter.unusedSimpArgs false
set_option linter.unusedVariables false
namespace Go.Proofs.YtmiolpfanlpfnaaGreat
open Go.RowKit
def RAct(a:Int×OpD)(cs:List Value):Prop:=cs=Y8p a.1 a.2
def V5a(l:List OpD)(a:Int×OpD):List OpD:=if a.1<2 then actL a.1 a.2 l else l
def X8m(acts:List (Int×OpD)):List OpD:=acts.foldl V5a []
theorem X8l(acts:List (Int×OpD))(k:Nat)(h:k<acts.length):X8m (acts.take (k+1))=V5a (X8m (acts.take k)) acts[k]:=by unfold X8m;rw[List.take_add_one,aB h,List.foldl_append];rfl
structure LawI (w0:World) (tb p bl:Nat) (ts:Nat->Nat) (l:List OpD) (t:Nat) (F:Nat->Prop) (w:World):Prop where
 doz:DoZ tb p bl ts l l t F w
 new:∀i,F i->w0.heap.size<=i
 ext:Ext w0 w
 bl:w0.heap.size<=bl
section
variable {w0 w w':World} {tb p bl:Nat} {ts:Nat->Nat} {l:List OpD} {t:Nat} {F:Nat->Prop}
theorem LawI.skip(h:LawI w0 tb p bl ts l t F w):LawI w0 tb p bl ts l (t+1) F w:=by obtain⟨C,S,Ts,h1,h2,h3⟩:=h.doz.ex;have hd:=h.doz;exact⟨⟨⟨C,S,Ts,h1.more (Nat.le_succ t),h2.more (Nat.le_succ t),h3⟩,hd.at_,hd.list,hd.nl,hd.lt,hd.ap,Nat.le_succ_of_le hd.len⟩,h.new,h.ext,h.bl⟩
theorem LawI.more{u:Nat}(h:LawI w0 tb p bl ts l t F w)(hu:t<=u):LawI w0 tb p bl ts l u F w:=by
 induction u with
 | zero=>obtain rfl:t=0:=Nat.le_zero.1 hu;exact h
 | succ u ih=>
   by_cases e:t=u+1
   ·subst e;exact h
   ·exact(ih (by omega)).skip
theorem LawI.list(h:LawI w0 tb p bl ts l t F w):∃A c,Row1 w bl 30 [.slice A l.length c]/\Sl w 11 ROp (.slice A l.length c) l:=by obtain⟨A,n,c,h1,h2,_⟩:=h.doz.list;have hf:=h2.form;obtain⟨A',c',e⟩:=hf;injection e with e1 e2 e3;subst e1 e2 e3;exact⟨_,_,h1,h2.sl (fun _=>rfl) (fun _=>rfl)⟩
theorem LawI.len(h:LawI w0 tb p bl ts l t F w):l.length<=t:=h.doz.len
theorem LawI.act(kind:Int)(o:OpD)(h:LawI w0 tb p bl ts l t F w)(hk:kind≠2)(hid:In64 o.id)(hres:In64 o.result)(ht:t<40):
  Calls Tryz.prog 17 #[.pointer (some ⟨tb,0,none⟩),.pointer (some ⟨p,0,none⟩),.pointer (some ⟨bl,0,none⟩),actV kind o] w fun e w'=>e= .returned (.bool true)/\∃F',LawI w0 tb p bl ts (actL kind o l) (t+1) F' w':=by
 refine(X7z kind o w h.doz hk hid hres ht).mono ?_;rintro e w' ⟨rfl,F',h1,h2⟩;have h3:=h2.fresh h.ext (fun i q=>q.elim (h.new i) (fun e=>e▸h.bl));exact⟨rfl,F',h1,fun i q=>h3.2 i (.inl q),h3.1,h.bl⟩
theorem LawI.start(ht:TblAt w tb p ts F)(hb:Begun w0 p F 1800 860 w):LawI w0 tb p w.heap.size ts [] 0 (fun i=>F i/\i<w.heap.size) (w.alloc (.cells #[.slice none 0 0] 30)):=by
 have hx:Ext w (w.alloc (.cells #[.slice none 0 0] 30)):=Ext.alloc _ _;have hp:=hb.pag;refine⟨⟨⟨Z1j 1800 860,Z1j 1800 860,fun _=> .no,⟨X9o hp.full (by decide),Soil.start _ _⟩,⟨⟨rfl,rfl⟩,rfl,rfl,by decide⟩,hp.shrink.ext hx⟩,?_,⟨none,0,0,Row1.made _ _ _,OwnL.nil _ _ _ _ _,fun k q=>by cases q⟩,fun q=>Nat.lt_irrefl _ q.2,fun i q=> ?_,⟨?_,fun j hj=> ?_⟩,aF _⟩,fun i q=>hb.new i q.1,hb.ext.trans hx,hb.ext.size⟩
 ·exact TblAt.ext (F:=fun i=>F i/\i<w.heap.size) ⟨ht.row,ht.tree,fun q=>ht.out q.1,fun j hj q=>ht.outs j hj q.1⟩ hx
 ·rw[World.size_alloc];have:=q.2;omega
 ·have:=ht.row.lt;omega
 ·have:=(ht.tree j hj).lt;omega
end
theorem V3e{way:Int}{fl:List Int}(h:4<fl.length\/way<0\/5<=way)(l:List OpD):Z5c way fl l= []:=by
 have hk:∀o,okF way fl o=false:=fun o=>by
  unfold okF;rcases h with h | h
  ·rw[decide_eq_false (show¬fl.length<=4 by omega)];simp
  ·have:wayI way o= []:=by unfold wayI;rw[if_neg (by omega)]
   rw[this];rfl
 unfold Z5c
 induction l with
 | nil=>rfl
 | cons o r ih=>
   rw[List.foldl_cons,show Y9i way fl [] o= []by unfold Y9i;rw[hk,if_neg (by simp)]];exact ih
end Go.Proofs.YtmiolpfanlpfnaaGreat
