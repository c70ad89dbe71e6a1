/- The acts of a statement of layer 13, one behind the other; what a table finds behind them. Conditions: acts that can be read. -/
import Derived.Test.YtohaldfnmgcofaaGreatT39
import Derived.Test.YtohaldfnmgcofaaGreatT32
set_option linter.unusedSimpArgs false
set_option linter.unusedVariables false
namespace Go.Proofs.YtohaldfnmgcofaaGreat
open Go.RowKit
def RAct(a:Int×OpD)(cs:List Value):Prop:=cs=Y9a a.1 a.2
def V5r(l:List OpD)(a:Int×OpD):List OpD:=if a.1<2 then actL a.1 a.2 l else l
def X8w(acts:List (Int×OpD)):List OpD:=acts.foldl V5r []
theorem X8v(acts:List (Int×OpD))(k:Nat)(h:k<acts.length):X8w (acts.take (k+1))=V5r (X8w (acts.take k)) acts[k]:=by unfold X8w;rw[List.take_add_one,aB h,List.foldl_append];rfl
structure LawI (w0:World) (tb p bl:Nat) (ts:Nat->Nat) (l:List OpD) (t:Nat) (F:Nat->Prop) (w:World):Prop where
 doz:DoZ tb p bl ts l l t F w
 new:∀i,F i->w0.heap.size<=i
 ext:Ext w0 w
 bl:w0.heap.size<=bl
section
variable {w0 w w':World} {tb p bl:Nat} {ts:Nat->Nat} {l:List OpD} {t:Nat} {F:Nat->Prop}
theorem LawI.skip(h:LawI w0 tb p bl ts l t F w):LawI w0 tb p bl ts l (t+1) F w:=by obtain⟨C,S,Ts,h1,h2,h3⟩:=h.doz.ex;have hd:=h.doz;exact⟨⟨⟨C,S,Ts,h1.more (Nat.le_succ t),h2.more (Nat.le_succ t),h3⟩,hd.at_,hd.list,hd.nl,hd.lt,hd.ap,Nat.le_succ_of_le hd.len⟩,h.new,h.ext,h.bl⟩
theorem LawI.more{u:Nat}(h:LawI w0 tb p bl ts l t F w)(hu:t<=u):LawI w0 tb p bl ts l u F w:=by
 induction u with
 | zero=>obtain rfl:t=0:=Nat.le_zero.1 hu;exact h
 | succ u ih=>
   by_cases e:t=u+1
   ·subst e;exact h
   ·exact(ih (by omega)).skip
theorem LawI.len(h:LawI w0 tb p bl ts l t F w):l.length<=t:=h.doz.len
theorem LawI.act(kind:Int)(o:OpD)(h:LawI w0 tb p bl ts l t F w)(hk:kind≠2)(hid:In64 o.id)(hres:In64 o.result)(ht:t<40):
  cQ 24 #[tp tb,tp p,tp bl,actV kind o] w fun e w'=>e= .returned (.bool true)/\∃F',LawI w0 tb p bl ts (actL kind o l) (t+1) F' w':=by
 refine(X8j kind o w h.doz hk hid hres ht).mono ?_;rintro e w' ⟨rfl,F',h1,h2⟩;have h3:=h2.fresh h.ext (fun i q=>q.elim (h.new i) (fun e=>e▸h.bl));exact⟨rfl,F',h1,fun i q=>h3.2 i (.inl q),h3.1,h.bl⟩
theorem LawI.start(ht:TblAt w tb p ts F)(hb:Begun w0 p F 1800 860 w):LawI w0 tb p w.heap.size ts [] 0 (fun i=>F i/\i<w.heap.size) (w.alloc (.cells #[.slice none 0 0] 69)):=by
 have hx:Ext w (w.alloc (.cells #[.slice none 0 0] 69)):=Ext.alloc _ _;have hp:=hb.pag;refine⟨⟨⟨Z1j 1800 860,Z1j 1800 860,fun _=> .no,⟨X9y hp.full (by decide),Soil.start _ _,fun b hb hu=>by unfold Z1j at hu;rw[Z9o]at hu;have:=of_decide_eq_true hu;omega⟩,⟨⟨rfl,rfl⟩,rfl,rfl,by decide,rfl⟩,hp.shrink.ext hx⟩,?_,⟨none,0,0,Row1.made _ _ _,OwnL.nil _ _ _ _ _,fun k q=>by cases q⟩,fun q=>Nat.lt_irrefl _ q.2,fun i q=> ?_,⟨?_,fun j hj=> ?_⟩,aF _⟩,fun i q=>hb.new i q.1,hb.ext.trans hx,hb.ext.size⟩
 ·exact TblAt.ext (F:=fun i=>F i/\i<w.heap.size) ⟨ht.row,ht.tree,fun q=>ht.out q.1,fun j hj q=>ht.outs j hj q.1⟩ hx
 ·rw[World.size_alloc];have:=q.2;omega
 ·have:=ht.row.lt;omega
 ·have:=(ht.tree j hj).lt;omega
end
theorem Tab.all_eq{S:StoreD}{Ts:Nat->TrD}{l all:List OpD}(hT:Tab S Ts (fun _=>l))(hr:Ris l)(hf:Finds Ts 0 ⟨#[]⟩ l all all.length):all=l:=by
 have hf':Finds Ts 0 (bts []) l all all.length:=hf;have hw:0<5:=by omega
 have hint:∀o∈l,∀x∈wayL 0 o,In64 x:=fun o ho x hx=>(OpIn.of (hT.ok 0 hw o ho)).way 0 x hx;have hln:l.Nodup:=hr.imp (fun {a b} h e=>by rw[e]at h;omega);have hp:all.Perm l:=(List.perm_ext_iff_of_nodup (hf'.nodup hT hw) hln).2 (fun o=>by
  have h1:=hf'.mem_iff hT hw o;rw[List.take_length,wayK,Y0w]at h1;simpa using h1)
 have hr':l.Pairwise (fun a b=>a.id<b.id):=hr;refine Z8u (R:=fun(a b:OpD)=>a.id<b.id) _ _ hp ?_ hr' (fun a ha b hb h1 h2=>by omega);refine(hf'.rise hT hw).imp_of_mem (fun {a b} ha hb h=> ?_);rw[wayK,wayK,U1e (hint a (hf.mem a ha)) (hint b (hf.mem b hb))]at h;have h2:¬a.id=b.id/\a.id<b.id:=by simpa [wayL,ltI]using h
 exact h2.2
section
variable {w0 w w':World} {tb p bl:Nat} {ts:Nat->Nat} {l:List OpD} {t:Nat} {F:Nat->Prop}
end
end Go.Proofs.YtohaldfnmgcofaaGreat
