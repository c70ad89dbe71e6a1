/- annalistlaw13.does: a call of both, of any kind but Get. Conditions: a table behind fewer than 40 acts. -/
import Derived.Test.YtohaldfnmgcofaaGreatT37
import Derived.Test.YtohaldfnmgcofaaGreatT30
set_option linter.unusedSimpArgs false
set_option linter.unusedVariables false
namespace Go.Proofs.YtohaldfnmgcofaaGreat
open Go.RowKit
structure ComOk (t:Nat) (C:StoreD):Prop where
 pow:Pow C.disk
 late:C.disk.late= []
 room:C.head.room=860
 seq:C.head.seq<=10+2*t
 pages:C.head.pages=938
structure DoZ (tb p bl:Nat) (ts:Nat->Nat) (l m:List OpD) (t:Nat) (F:Nat->Prop) (w:World):Prop where
 ex:∃C S Ts,TabZ 936 C S Ts l t/\ComOk t C/\PagerAt w p F S
 at_:TblAt w tb p ts F
 list:∃A n c,Row1 w bl 69 [.slice A n c]/\OwnL w 0 73 11 OpD.cells (.slice A n c) m/\∀k,(Value.slice A n c).ownBlock=some k->¬F k
 nl:¬F bl
 lt:∀i,F i->i<w.heap.size
 ap:tb≠bl/\∀j,j<5->ts j≠bl
 len:l.length<=t
section
variable {tb p bl:Nat} {ts:Nat->Nat} {l m r:List OpD} {t:Nat} {F F':Nat->Prop} {w w':World}
theorem DoZ.ext(h:DoZ tb p bl ts l m t F w)(hx:Ext w w'):DoZ tb p bl ts l m t F w':=by obtain⟨C,S,Ts,h1,h0,h2⟩:=h.ex;obtain⟨A,n,c,h3,h4,h5⟩:=h.list;exact⟨⟨C,S,Ts,h1,h0,h2.ext hx⟩,h.at_.ext hx,⟨A,n,c,h3.ext hx h3.lt,h4.ext hx,h5⟩,h.nl,fun i q=>aE (h.lt i q) hx.size,h.ap,h.len⟩
theorem DoZ.set{base n c:Nat}{A:Option Addr}(h:DoZ tb p bl ts l m t F w)(hx:Ext w w')(hb:w.heap.size<=base)(ho:OwnL w' base 73 11 OpD.cells (.slice A n c) r):
  DoZ tb p bl ts l r t F (w'.setCell ⟨bl,0,none⟩ (.slice A n c))/\Only (fun i=>i=bl) w' (w'.setCell ⟨bl,0,none⟩ (.slice A n c)):=by
 have h':=h.ext hx;have hoS:Only (fun i=>i=bl) w' (w'.setCell ⟨bl,0,none⟩ (.slice A n c)):=Only.setCell (F:=fun i=>i=bl) (p:=⟨bl,0,none⟩) Only.refl (.inl rfl) _;obtain⟨C,S,Ts,h1,h0,h2⟩:=h'.ex;obtain⟨A0,n0,c0,h3,h4,h5⟩:=h'.list;refine⟨⟨⟨C,S,Ts,h1,h0,h2.only hoS (fun i q e=>h.nl (e▸q))⟩,⟨hoS.row h'.at_.row h.ap.1,fun j hj=>hoS.row (h'.at_.tree j hj) (h.ap.2 j hj),h'.at_.out,h'.at_.outs⟩,⟨A,n,c,h3.set 0 _,(ho.lower (Nat.zero_le _)).only hoS (fun k q e=>ho.apartRow h3 (by decide) (by rw[q,e])),fun k q r=> ?_⟩,h.nl,fun i q=>by have:=h'.lt i q;have:=hoS.size;omega,h.ap,h.len⟩,hoS⟩;have h6:=(ho.lt k q).1;have h7:=h.lt k r;omega
theorem DoZ.after{C S:StoreD}{Ts:Nat->TrD}{t':Nat}(h:DoZ tb p bl ts l m t F w)(hz:TabZ 936 C S Ts m t')(hc:ComOk t' C)(h1:TblAt w' tb p ts F')(h2:PagerAt w' p F' S)(hk:Keeps F F' w w')(hl:m.length<=t'):
  ∃F',DoZ tb p bl ts m m t' F' w'/\Keeps (Un F (fun i=>i=bl)) (Un F' (fun i=>i=bl)) w w':=by
 obtain⟨A,n,c,r1,r2,r3⟩:=h.list;exact⟨fun i=>F' i/\i<w'.heap.size,⟨⟨C,S,Ts,hz,hc,h2.shrink⟩,⟨h1.row,h1.tree,fun q=>h1.out q.1,fun j hj q=>h1.outs j hj q.1⟩,⟨A,n,c,hk.only.row r1 h.nl,r2.only hk.only r3,fun k q r=>hk.out (r2.lt k q).2 (r3 k q) r.1⟩,fun q=>hk.out r1.lt h.nl q.1,fun i q=>q.2,h.ap,hl⟩,X5d hk.shrink⟩
theorem ComOk.more{t u:Nat}{C:StoreD}(h:ComOk t C)(hu:t<=u):ComOk u C:=⟨h.pow,h.late,h.room,by have:=h.seq;omega,h.pages⟩
theorem Y7q:Y2l 40<=936/\Y9s 40<=750:=by decide
theorem TabZ.com{C S:StoreD}{Ts:Nat->TrD}(h:TabZ 936 C S Ts l t)(hc:ComOk t C)(ht:t<=40):Pow S.disk/\S.disk.late= []/\hdsN (Z2h 1024 S.dirty).length+(Z2h 1024 S.dirty).length<=S.head.room/\S.head.seq+2<18446744073709551616/\∀S',Cmtd S S'->ComOk (t+1) S':=by
 have e:=h.soil.same;have e1:S.disk=C.disk:=by rw[e]
 have e2:S.head=C.head:=by rw[e]
 have h1:=h.soil.dirty 1024;have h2:=Y1c ht;have h3:=Y7q.2;have h4:=hc.seq;have h5:=hc.room;refine⟨by rw[e1];exact hc.pow,by rw[e1];exact hc.late,?_,by rw[e2];omega,fun S' q=>⟨q.pow,q.late,by rw[q.room,e2];exact h5,?_,by rw[q.pages,e2];exact hc.pages⟩⟩
 ·rw[e2,h5];unfold hdsN;omega
 ·have:=q.seq;rw[e2]at this;omega
end
def actL(kind:Int)(o:OpD)(l:List OpD):List OpD:=if kind=0 then(if Z1p o=0 then wiO l o else l)else if kind=1 then delO l o.id else l
def actV(kind:Int)(o:OpD):Value:= .agg #[.int .i64 kind,.int .i64 o.id,.int .i64 o.proc,.int .i64 o.object,.int .i64 o.kind,.int .i64 o.method,.int .i64 o.arg,.int .i64 o.second,.bool o.done,.int .i64 o.result,.int .i64 o.invoke,.int .i64 o.ret]
def Y9a(kind:Int)(o:OpD):List Value:= .int .i64 kind::o.cells
theorem ActAt.row{w:World}{b:Nat}{kind:Int}{o:OpD}(h:Row1 w b 75 (Y9a kind o)):(w.cell? ⟨b,1,none⟩=some (.int .i64 o.id)/\w.cell? ⟨b,2,none⟩=some (.int .i64 o.proc)/\w.cell? ⟨b,3,none⟩=some (.int .i64 o.object)/\w.cell? ⟨b,4,none⟩=some (.int .i64 o.kind)/\w.cell? ⟨b,5,none⟩=some (.int .i64 o.method)/\w.cell? ⟨b,6,none⟩=some (.int .i64 o.arg)/\w.cell? ⟨b,7,none⟩=some (.int .i64 o.second)/\w.cell? ⟨b,8,none⟩=some (.bool o.done)/\w.cell? ⟨b,9,none⟩=some (.int .i64 o.result)/\w.cell? ⟨b,10,none⟩=some (.int .i64 o.invoke)/\w.cell? ⟨b,11,none⟩=some (.int .i64 o.ret)):=⟨h.cell 1,h.cell 2,h.cell 3,h.cell 4,h.cell 5,h.cell 6,h.cell 7,h.cell 8,h.cell 9,h.cell 10,h.cell 11⟩
end Go.Proofs.YtohaldfnmgcofaaGreat
