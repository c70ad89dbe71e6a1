/- Maps from ints to values of any make that the call itself has made: looked up, stored, deleted, ranged over. Conditions: keys that an int holds. -/
import Derived.Test.YtohaldfnmgcofaaGreatT01
import Derived.Maps.RangeWalk
set_option maxRecDepth 100000
set_option maxHeartbeats 4000000
set_option linter.unusedSimpArgs false
set_option linter.unusedVariables false
namespace Go.Proofs.YtohaldfnmgcofaaGreat
section
open Go.RowKit Go.Maps
def Rv(v:Value):Option (DataW Value×List MemPlace):=some (.held v,[])
structure MapD {α:Type} (enc:α->Value) (f:Int->Option α) (D:DataW Value):Prop where
 tidy:Tidy D
 has:∀x,Maps.has D (.int .i64 x)=(f x).isSome
 hit:∀x a,f x=some a->∀z,D.atKey (.int .i64 x) z= .held (enc a)
def updI{α:Type}(f:Int->Option α)(x:Int)(v:Option α):Int->Option α:=fun y=>if y=x then v else f y
theorem Z9q{α:Type}(f:Int->Option α)(x:Int)(v:Option α):updI f x v x=v:=if_pos rfl
theorem Z3n{α:Type}(f:Int->Option α){x y:Int}(v:Option α)(h:y≠x):updI f x v y=f y:=if_neg h
theorem V2d{a b:Int}(h:a≠b):(Lit.int .i64 a)≠Lit.int .i64 b:=fun e=>h (by injection e)
section
variable {α:Type} {enc:α->Value} {f:Int->Option α} {D:DataW Value}
theorem MapD.start:MapD enc (fun _=>none) (.map []):=⟨tidy_empty,fun _=>rfl,fun _ _ h=>by cases h⟩
theorem MapD.put(h:MapD enc f D)(x:Int)(a:α):MapD enc (updI f x (some a)) (D.put (.int .i64 x) (.held (enc a))):=by
 have hk:WideAt.IsKeyLit (Lit.int .i64 x):=trivial;refine⟨h.tidy.put hk _,fun y=> ?_,fun y c hy z=> ?_⟩
 ·by_cases e:y=x
  ·subst e;rw[Z9q,has_put_same h.tidy.isMap hk];rfl
  ·rw[Z3n _ _ e,has_put_other (V2d e),h.has]
 ·by_cases e:y=x
  ·subst e;rw[Z9q]at hy;injection hy with hy;subst hy;exact atKey_put_same h.tidy.isMap hk _ _
  ·rw[Z3n _ _ e]at hy;rw[atKey_put_other (V2d e)];exact h.hit y c hy z
theorem MapD.miss(h:MapD enc f D){x:Int}(hx:f x=none)(z:DataW Value):D.atKey (.int .i64 x) z=z:=atKey_of_not_has (by rw[h.has,hx];rfl) z
theorem MapD.value(h:MapD enc f D){x:Int}{v z:Value}{ps:List MemPlace}(hv:Rv v=some (D.atKey (.int .i64 x) (.held z),ps)):v=((f x).map enc).getD z:=by
 unfold Rv at hv;injection hv with hv;injection hv with hv _;cases hf:f x with
 | none=>rw[h.miss hf]at hv;injection hv with hv
 | some a=>rw[h.hit x a hf]at hv;injection hv with hv
end
def MapI{α:Type}(w:World)(k:TypeId)(b n:Nat)(enc:α->Value)(f:Int->Option α):Prop:=∃D:DataW Value,w.ownsMap Tryz.prog k Rv b n D/\MapD enc f D
section
variable {α:Type} {enc:α->Value} {f:Int->Option α} {w w':World} {k t e:TypeId} {b n:Nat}
theorem MapI.made(w:World)(k:TypeId)(enc:α->Value):MapI (w.alloc (.map #[] 0)) k w.heap.size 0 enc (fun _=>none):=⟨_,World.ownsMap_made _ _ _ _,MapD.start⟩
theorem MapI.lt(h:MapI w k b n enc f):b<w.heap.size:=let ⟨_,h,_⟩:=h;h.lt
theorem MapI.kept{row:Option Nat}(h:MapI w k b n enc f)(hg:w.grownBy w' row)(hne:some b≠row):MapI w' k b n enc f:=let ⟨D,h1,h2⟩:=h;⟨D,h1.kept hg hne,h2⟩
theorem MapI.ext(h:MapI w k b n enc f)(hb:Ext w w'):MapI w' k b n enc f:=h.kept (row:=none) ⟨hb.os,hb.tape,hb.output,hb.size,fun k hk _=>hb.block k hk⟩ (by simp)
theorem MapI.mono{m:Nat}(h:MapI w k b n enc f)(hm:n<=m):MapI w k b m enc f:=let ⟨D,h1,h2⟩:=h;⟨D,h1.mono hm,h2⟩
theorem MapI.look(h:MapI w k b n enc f)(hk:Tryz.prog.underlying k=some (.int .i64))(ht:Tryz.prog.underlying t=some (.map k e)){z:Value}(hz:(zeroValue e).run Tryz.prog w= .ok z w){x:Int}(hx:(Lit.int .i64 x).wf=true):
  (Instr.lookup t (.map (some b)) (.int .i64 x) true).run Tryz.prog w= .ok (.tuple #[((f x).map enc).getD z,.bool (f x).isSome]) w:=by
 obtain⟨D,h1,h2⟩:=h;obtain⟨v,ps,hr,hv⟩:=h1.look_ok (int_keyed hk) ht hz (zd:= .held z) (zp:= []) rfl (keyOf_int_mk hk hx);have hv:v=((f x).map enc).getD z:=h2.value hv;subst hv;have hb:=h2.has x;rw[hb]at hr;exact hr
theorem MapI.look0(h:MapI w k b n enc f)(hk:Tryz.prog.underlying k=some (.int .i64))(ht:Tryz.prog.underlying t=some (.map k e)){z:Value}(hz:(zeroValue e).run Tryz.prog w= .ok z w){x:Int}(hx:(Lit.int .i64 x).wf=true):
  (Instr.lookup t (.map (some b)) (.int .i64 x) false).run Tryz.prog w= .ok (((f x).map enc).getD z) w:=by
 obtain⟨D,h1,h2⟩:=h;obtain⟨v,ps,hr,hv⟩:=h1.lookup (int_keyed hk) ht hz (zd:= .held z) (zp:= []) rfl (keyOf_int_mk hk hx);have hv:v=((f x).map enc).getD z:=h2.value hv;subst hv;exact hr
theorem MapI.store(h:MapI w k b n enc f)(hk:Tryz.prog.underlying k=some (.int .i64))(ht:Tryz.prog.underlying t=some (.map k e))(hn:n<=1000000000){x:Int}(hx:(Lit.int .i64 x).wf=true)(a:α){V:Value}(hV:V=enc a):
  ∃w',(Instr.mapUpdate t (.map (some b)) (.int .i64 x) V).run Tryz.prog w= .ok () w'/\MapI w' k b (n+1) enc (updI f x (some a))/\w.mapTurned w' b:=by
 obtain⟨D,h1,h2⟩:=h;subst hV;obtain⟨w',hr,h3,h4⟩:=h1.store (int_keyed hk) ht (by simp[maxLen];omega) (keyOf_int_mk hk hx) (d:= .held (enc a)) (ps:= []) rfl;exact⟨w',hr,⟨_,h3,h2.put x a⟩,h4⟩
end
def RangeI{α:Type}(w:World)(k:TypeId)(b r n:Nat)(enc:α->Value)(f:Int->Option α)(left:Int->Bool)(cnt:Nat):Prop:=
 ∃(D:DataW Value) (l:Lit->Bool),w.ranges Tryz.prog k Rv b r n D l cnt/\MapD enc f D/\∀x,l (.int .i64 x)=left x
section
variable {α:Type} {enc:α->Value} {f:Int->Option α} {w w':World} {k t e:TypeId} {b r n cnt:Nat} {left:Int->Bool}
theorem RangeI.left_eq(h:RangeI w k b r n enc f left cnt):w.rangeLeft b r=cnt:=let ⟨_,_,h,_⟩:=h;h.left_eq
theorem RangeI.kept{row:Option Nat}(h:RangeI w k b r n enc f left cnt)(hg:w.grownBy w' row)(hb':some b≠row)(hr':some r≠row):RangeI w' k b r n enc f left cnt:=
 let ⟨D,l,h1,h2,h3⟩:=h;⟨D,l,h1.kept hg hb' hr',h2,h3⟩
theorem RangeI.ext(h:RangeI w k b r n enc f left cnt)(hb:Ext w w'):RangeI w' k b r n enc f left cnt:=h.kept (row:=none) ⟨hb.os,hb.tape,hb.output,hb.size,fun k hk _=>hb.block k hk⟩ (by simp) (by simp)
variable {ops:Array Oper} {rest:List Oper} {o:Oper} {a:Act} {Q:Exit->Act->World->Prop}
theorem Y5j(w:World)(hg:o.guard=none)(m:Operand)(t:TypeId)(hop:o.op=Op.range t m)(k e:TypeId)(hk:Tryz.prog.underlying k=some (.int .i64))(ht:Tryz.prog.underlying t=some (.map k e))(b n:Nat)
 (hm:a.eval m= .map (some b))(h:MapI w k b n enc f)
 (hK:∀w' cnt,cnt<=n->RangeI w' k b w.heap.size n enc f (fun x=>(f x).isSome) cnt->w.grownBy w' none->w'.heap.size=w.heap.size+1->wpList Tryz.prog ops Q rest (a.put o.dst (tp w.heap.size)) w'):
  wpList Tryz.prog ops Q (o::rest) a w:=by
 obtain⟨D,h1,h2⟩:=h;exact wpList_range_own w hg m t hop k e (int_keyed hk) ht Rv b n D hm h1 (fun w' h3 h4 h5=>hK w' _ h1.size_le ⟨D,_,h3,h2,h2.has⟩ h4 h5)
theorem Y7f(w:World)(hg:o.guard=none)(it:Operand)(hop:o.op=Op.next it false)(k:TypeId)(hk:Tryz.prog.underlying k=some (.int .i64))(b r n cnt:Nat)
 (hit:a.eval it= tp r)(h:RangeI w k b r n enc f left cnt)
 (hDone:cnt=0->(∀x,left x=false)->wpList Tryz.prog ops Q rest (a.put o.dst (.tuple #[.bool false])) w)
 (hMore:∀(x:Int) (c:α) (w':World) (cnt':Nat),(Lit.int .i64 x).wf=true->left x=true->f x=some c->RangeI w' k b r n enc f (fun y=>left y&& !decide (y=x)) cnt'->cnt'<cnt->
    w.grownBy w' (some r)->w'.heap.size=w.heap.size->(Instr.entry (tp r)).run Tryz.prog w'= .ok (.tuple #[.int .i64 x,enc c]) w'->wpList Tryz.prog ops Q rest (a.put o.dst (.tuple #[.bool true,.int .i64 x,enc c])) w'):
  wpList Tryz.prog ops Q (o::rest) a w:=by
 obtain⟨D,l,h1,h2,h3⟩:=h;refine wpList_next_ranges w hg it hop k (int_keyed hk) Rv (Value.int .i64) (fun v:Value=>v) (fun key kl hkey=>by obtain⟨x,rfl,_⟩:=Maps.keyOf_int_inv hk hkey;exact⟨x,rfl⟩) (fun v y _=>⟨v,rfl⟩) b r n D l cnt hit h1
  (fun h0 hl=>hDone h0 (fun x=>by rw[<-h3,hl])) (fun x c kl y w' cnt' hkey hlk hv hat hrg hlt hgr hsz hen=> ?_)
 obtain⟨x',ex,rfl,hwx⟩:=Maps.keyOf_int_inv hk hkey;cases ex;unfold Rv at hv;injection hv with hv;subst hv;have hh:=has_true_of_atKey hat;rw[h2.has]at hh;cases hf:f x with
 | none=>rw[hf]at hh;cases hh
 | some c'=>
   have h4:=h2.hit x c' hf (.held c);rw[hat]at h4;injection h4 with h4;subst h4;refine hMore x c' w' cnt' hwx (by rw[<-h3];exact hlk) hf ⟨D,_,hrg,h2,fun y=> ?_⟩ hlt hgr hsz hen;dsimp only;rw[h3];by_cases e:y=x
   ·subst e;simp[Lit.sameKey]
   ·rw[sameKey_ne (V2d e)];simp[e]
end
theorem Z4m{w w':World}{b:Nat}(h:w.mapTurned w' b):But b w w':=h.grown
theorem Y8c{w w':World}{P:Program}{k:TypeId}{R:Value->Option (DataW Value×List MemPlace)}{b n:Nat}{D:DataW Value}(h:w.ownsMap P k R b n D)(hb:w'.heap[b]? =w.heap[b]?):w'.ownsMap P k R b n D:=by obtain⟨es,clock,h1,h2⟩:=h;exact⟨es,clock,hb.trans h1,h2⟩
theorem MapI.block{α:Type}{enc:α->Value}{f:Int->Option α}{w w':World}{k:TypeId}{b n:Nat}(h:MapI w k b n enc f)(hb:w'.heap[b]? =w.heap[b]?):MapI w' k b n enc f:=
 let ⟨D,h1,h2⟩:=h;⟨D,Y8c h1 hb,h2⟩
theorem X1k{w:World}{b:Nat}{es:Array MapEntry}{clock:Nat}(hb:w.heap[b]? =some (.map es clock))(o:Obj):But b w (ChangeMaps.setBlock w b o):=
 ⟨rfl,rfl,rfl,by simp[ChangeMaps.setBlock],fun i _ hne=>ChangeMaps.heap_setBlock_other hb o (fun e=>hne (by rw[e]))⟩
structure Only (F:Nat->Prop) (w w':World):Prop where
 os:w'.os=w.os
 tape:w'.tape=w.tape
 output:w'.output=w.output
 size:w.heap.size<=w'.heap.size
 block:∀i,i<w.heap.size->¬F i->w'.heap[i]? =w.heap[i]?
section
variable {F:Nat->Prop} {a w w':World}
theorem Only.of(h:Ext a w):Only F a w:=⟨h.os,h.tape,h.output,h.size,fun i hi _=>h.block i hi⟩
theorem Only.refl:Only F a a:=⟨rfl,rfl,rfl,aF _,fun _ _ _=>rfl⟩
theorem Only.but{b:Nat}(h:But b a w)(hb:F b\/a.heap.size<=b):Only F a w:=⟨h.os,h.tape,h.output,h.size,fun i hi hn=>h.block i hi (fun e=>by
 injection e with e;subst e;rcases hb with hb | hb
 ·exact hn hb
 ·omega)⟩
theorem Only.trans{F':Nat->Prop}(h:Only F a w)(k:Only F' w w')(hF:∀i,F' i->F i\/a.heap.size<=i):Only F a w':=
 ⟨k.os.trans h.os,k.tape.trans h.tape,k.output.trans h.output,Nat.le_trans h.size k.size,fun i hi hn=>(k.block i (aE hi h.size) (fun q=>by
   rcases hF i q with q | q
   ·exact hn q
   ·omega)).trans (h.block i hi hn)⟩
theorem Only.trans'(h:Only F a w)(k:Only F w w'):Only F a w':=h.trans k (fun _ q=> .inl q)
theorem Only.mono{F':Nat->Prop}(h:Only F a w)(hF:∀i,F i->F' i\/a.heap.size<=i):Only F' a w:=⟨h.os,h.tape,h.output,h.size,fun i hi hn=>h.block i hi (fun q=>by
 rcases hF i q with q | q
 ·exact hn q
 ·omega)⟩
theorem Only.ext(h:Only F a w)(k:Ext w w'):Only F a w':=h.trans' (Only.of k)
theorem Only.turn{b:Nat}(h:Only F a w)(k:But b w w')(hb:F b\/a.heap.size<=b):Only F a w':=h.trans (F':=fun i=>i=b) (Only.but k (.inl rfl)) (fun i q=>by subst q;exact hb)
theorem Only.drewN(h:Only F a w)(n:Nat):Only F a (w.drewN n):=⟨h.os,h.tape,h.output,h.size,h.block⟩
theorem Only.drew(h:Only F a w):Only F a w.drew:=⟨h.os,h.tape,h.output,h.size,h.block⟩
theorem Only.alloc(h:Only F a w)(o:Obj):Only F a (w.alloc o):=h.ext (Ext.alloc _ _)
theorem Only.setCell(h:Only F a w){p:Addr}(hp:F p.block\/a.heap.size<=p.block)(u:Value):Only F a (w.setCell p u):=
 h.turn (But.setCell But.refl (.inl rfl) u) hp
theorem Only.below{B:Nat}(h:Only F a w)(hB:∀i,F i->B<=i)(hs:B<=a.heap.size):Below B a w:=
 ⟨h.os,h.tape,h.output,h.size,fun i hi=>h.block i (by omega) (fun q=>by have:=hB i q;omega)⟩
theorem Only.toExt(h:Only F a w)(hB:∀i,F i->a.heap.size<=i):Ext a w:=h.below hB (aF _)
theorem Only.row{g:Nat}{t:TypeId}{cs:List Value}(h:Only F a w)(hr:Row1 a g t cs)(hg:¬F g):Row1 w g t cs:=hr.same (h.block g hr.lt hg)
theorem Only.cell(h:Only F a w){b o:Nat}(hb:b<a.heap.size)(hn:¬F b):w.cell? ⟨b,o,none⟩=a.cell? ⟨b,o,none⟩:=World.cell?_of_block (h.block b hb hn)
theorem Only.map{α:Type}{enc:α->Value}{f:Int->Option α}{k:TypeId}{b n:Nat}(h:Only F a w)(hm:MapI a k b n enc f)(hb:¬F b):MapI w k b n enc f:=hm.block (h.block b hm.lt hb)
end
end
section
open Go.RowKit
section
variable {P:Program} (w:World)
theorem Z5m(base:Nat)(t ty e:TypeId)(i:TypeInfo)(z:Value)(size bytes:Nat)(ht:P.underlying t=some (.slice e))(hi:P.info? e=some i)(hz:i.zero=some z)
 (hsize:i.size=size)(hby:i.bytes=bytes)(hzs:z.cells.size=size)(hsz:0<size)
 (v:Value)(n:Nat)(xs:List Value)(hown:w.ownsRow base e size v n xs)
 (a:Addr)(m c:Nat)(news:List Value)(hl:news.length=m*size)(hnews:∀j u,news[j]? =some u->w.cell? (a.add j)=some u)(h1:∀u∈news,u.oneCell'=true)
 (h63:n+m<=maxLen)(hbytes:(n+m)*bytes<=140737488355328)(hbase:base<=w.heap.size):
  ∃v' w',(Builtin.append_ #[t,t] ty #[v,.slice (some a) m c]).run P w= .ok v' w'/\w'.ownsRow base e size v' (n+m) (xs++news)/\w.grownBy w' v.ownBlock/\(∀k,v'.ownBlock=some k->v.ownBlock=some k\/w.heap.size<=k):=by
 obtain⟨v',w',hr,h2,h3,h4⟩:=run_append_own (P:=P) w base t ty e i z size bytes ht hi hz hsize hby hzs hsz v n xs hown a m c news hl hnews h1 h63 hbytes hbase;refine⟨v',w',hr,h2,h3,fun k hk=> ?_⟩;subst hsize;subst hby;have hsmall:n+m<=9223372036854775807:=by simp only[maxLen]at h63;omega
 rcases hown.2 with ⟨rfl,rfl⟩ | ⟨g,cap,cur,rfl,hbg,hg,hnc,hcm,hcs,htake⟩
 ·by_cases hm:m=0
  ·have:=h4.2 ⟨rfl,hm⟩;subst this;exact .inl hk
  ·have hr2:=run_append_nil (P:=P) w t ty e i z ht hi hz a m c news hl hnews (by omega) (by omega) (by have hb:=hbytes;simp only[Nat.zero_add]at hb;omega);rw[hr]at hr2;injection hr2 with q1 q2;subst q1;simp only[Value.ownBlock,Option.some.injEq]at hk;exact .inr (by omega)
 ·by_cases hroom:n+m<=cap
  ·have hfit:n*i.size+news.length<=cur.size:=by rw[hl,hcs,<-Nat.add_mul];exact Nat.mul_le_mul_right _ hroom
   have hr2:=run_append_room (P:=P) w t ty e i ht hi g n cap cur hg a m c news hl hnews h1 hroom hfit;rw[hr]at hr2;injection hr2 with q1 q2;subst q1;exact .inl hk
  ·have holds:∀j u,xs[j]? =some u->w.cell? ((⟨g,0,none⟩:Addr).add j)=some u:=hown.cells (g:=g) rfl;have hr2:=run_append_grow (P:=P) w t ty e i z ht hi hz ⟨g,0,none⟩ n cap xs hown.1 holds a m c news hl hnews (by omega) (by omega) (growslice_fits (by omega) hbytes);rw[hr]at hr2;injection hr2 with q1 q2;subst q1;simp only[Value.ownBlock,Option.some.injEq]at hk;exact .inr (by omega)
end
section
variable {P:Program} {α:Type} {t e:TypeId} {size bytes:Nat} {enc:α->List Value}
theorem X3q(el:Elem P t e size bytes)(henc:∀x,(enc x).length=size)(h1:∀x,∀u∈enc x,u.oneCell'=true){o:Oper}{a:Act}{w:World}{K:Act->World->Prop}{Q:Exit->Act->World->Prop}(s x:Operand)
 (ho:o.op= .call { callee:= .builtin .append,args:=#[s,x],argTypes:=#[t,t]})
 {base:Nat}(v:Value)(xs:List α)(hs:a.eval s=v)(hown:OwnL w base e size enc v xs)(hbase:base<=w.heap.size)
 (G c:Nat)(y:α)(hx:a.eval x= .slice (some ⟨G,0,none⟩) 1 c)(hrow:Row1 w G e (enc y))(h63:xs.length+1<=1000000000)(hbytes:bytes<=100000)
 (h:∀A' c' w',OwnL w' base e size enc (.slice A' (xs++ [y]).length c') (xs++ [y])->w.grownBy w' v.ownBlock->(∀k,(Value.slice A' (xs++ [y]).length c').ownBlock=some k->v.ownBlock=some k\/w.heap.size<=k)->K (a.put o.dst (.slice A' (xs++ [y]).length c')) w'):o.wp P a w K Q:=by
 obtain⟨i,z,hi,hz,hsize,hby,hzs⟩:=el.hi;obtain⟨v',w',hr,h2,h3,h4⟩:=Z5m (P:=P) w base t o.type e i z size bytes el.ht hi hz hsize hby hzs el.pos v xs.length (xs.flatMap enc) hown ⟨G,0,none⟩ 1 c (enc y) (by simp[henc]) (fun j u hu=>by rw[Addr.add_lit,Nat.zero_add,hrow.cell];exact hu) (h1 y) (by simp[maxLen];omega) (Nat.le_trans (Nat.mul_le_mul h63 hbytes) (by omega)) hbase;have hown2:OwnL w' base e size enc v' (xs++ [y]):=by unfold OwnL;rw[aA,aH];simpa using h2
 obtain⟨A',c',rfl⟩:=hown2.form;unfold Oper.wp execOp;simp only[ho,resolve,invoke,builtin,Sem.run_bind,Sem.run_pure,Result.andThen_ok,List.map_toArray,List.map_cons,List.map_nil,hs,hx,hr];exact h A' c' w' hown2 h3 h4
theorem Z0u(el:Elem P t e size bytes)(henc:∀x,(enc x).length=size)(h1:∀x,∀u∈enc x,u.oneCell'=true){ops:Array Oper}{rest:List Oper}{o:Oper}{a:Act}{w:World}{Q:Exit->Act->World->Prop}(hgd:o.guard=none)(s x:Operand)
 (ho:o.op= .call { callee:= .builtin .append,args:=#[s,x],argTypes:=#[t,t]})
 {base:Nat}(v:Value)(xs:List α)(hs:a.eval s=v)(hown:OwnL w base e size enc v xs)(hbase:base<=w.heap.size)
 (G c:Nat)(y:α)(hx:a.eval x= .slice (some ⟨G,0,none⟩) 1 c)(hrow:Row1 w G e (enc y))(h63:xs.length+1<=1000000000)(hbytes:bytes<=100000)
 (h:∀A' c' w',OwnL w' base e size enc (.slice A' (xs++ [y]).length c') (xs++ [y])->w.grownBy w' v.ownBlock->(∀k,(Value.slice A' (xs++ [y]).length c').ownBlock=some k->v.ownBlock=some k\/w.heap.size<=k)->wpList P ops Q rest (a.put o.dst (.slice A' (xs++ [y]).length c')) w'):wpList P ops Q (o::rest) a w:=
 wpList_plain hgd fun _ hK=>X3q el henc h1 s x ho v xs hs hown hbase G c y hx hrow h63 hbytes fun A' c' w' h2 h3 h4=>hK _ _ (h A' c' w' h2 h3 h4)
theorem Z8f(el:Elem P t e size bytes)(henc:∀x,(enc x).length=size)(h1:∀x,∀u∈enc x,u.oneCell'=true){ops:Array Oper}{o:Oper}{a:Act}{w:World}{K:Act->World->Prop}{Q:Exit->Act->World->Prop}{E:Prop}(hgd:o.guard=none)(s x:Operand)
 (ho:o.op= .call { callee:= .builtin .append,args:=#[s,x],argTypes:=#[t,t]})
 {base:Nat}(v:Value)(xs:List α)(hs:a.eval s=v)(hown:OwnL w base e size enc v xs)(hbase:base<=w.heap.size)
 (G c:Nat)(y:α)(hx:a.eval x= .slice (some ⟨G,0,none⟩) 1 c)(hrow:Row1 w G e (enc y))(h63:xs.length+1<=1000000000)(hbytes:bytes<=100000)
 (h:∀A' c' w',OwnL w' base e size enc (.slice A' (xs++ [y]).length c') (xs++ [y])->w.grownBy w' v.ownBlock->(∀k,(Value.slice A' (xs++ [y]).length c').ownBlock=some k->v.ownBlock=some k\/w.heap.size<=k)->K (a.put o.dst (.slice A' (xs++ [y]).length c')) w'):
  if Region.wanted o (yielded ops a.tmps)=true then Oper.wp P o a w K Q else E:=by
 have hw:Region.wanted o (yielded ops a.tmps)=true:=by simp[Region.wanted,hgd]
 rw[if_pos hw];exact X3q el henc h1 s x ho v xs hs hown hbase G c y hx hrow h63 hbytes h
end
theorem V6r{w w':World}{base sz n:Nat}{e:TypeId}{v:Value}{cs:List Value}(h:w.ownsRow base e sz v n cs)(hb:∀k,v.ownBlock=some k->w'.heap[k]? =w.heap[k]?):w'.ownsRow base e sz v n cs:=by
 refine⟨h.1,?_⟩;rcases h.2 with h | ⟨g,cap,cur,rfl,e2,e3,r⟩
 ·exact .inl h
 ·exact .inr ⟨g,cap,cur,rfl,e2,(hb g rfl).trans e3,r⟩
theorem OwnL.same{α:Type}{w w':World}{base k:Nat}{e:TypeId}{enc:α->List Value}{v:Value}{xs:List α}(h:OwnL w base e k enc v xs)(hb:∀k,v.ownBlock=some k->w'.heap[k]? =w.heap[k]?):OwnL w' base e k enc v xs:=V6r h hb
theorem OwnL.only{α:Type}{w w':World}{base k:Nat}{e:TypeId}{enc:α->List Value}{v:Value}{xs:List α}{G:Nat->Prop}(h:OwnL w base e k enc v xs)(hb:Only G w w')(hG:∀k,v.ownBlock=some k->¬G k):OwnL w' base e k enc v xs:=
 h.same fun k hk=>hb.block k (h.lt k hk).2 (hG k hk)
theorem Z3d{w:World}{base sz n:Nat}{e:TypeId}{v:Value}{cs:List Value}(h:w.ownsRow base e sz v n cs){k:Nat}(hk:v.ownBlock=some k):∃cur,w.heap[k]? =some (.cells cur e (0,0)):=by
 rcases h.2 with ⟨rfl,_⟩ | ⟨g,cap,cur,rfl,_,hg,_⟩
 ·cases hk
 ·simp only[Value.ownBlock,Option.some.injEq]at hk;subst hk;exact⟨cur,hg⟩
theorem OwnL.apart{α β:Type}{w:World}{base base' k k':Nat}{e e':TypeId}{enc:α->List Value}{enc':β->List Value}{v v':Value}{xs:List α}{ys:List β}(h:OwnL w base e k enc v xs)(h':OwnL w base' e' k' enc' v' ys)(he:e≠e'){b:Nat}(hb:v.ownBlock=some b):v'.ownBlock≠some b:=fun hb'=>by obtain⟨c1,h1⟩:=Z3d h hb;obtain⟨c2,h2⟩:=Z3d h' hb';rw[h1]at h2;injection h2 with h2;injection h2 with _ h2;exact he h2
theorem OwnL.apartRow{α:Type}{w:World}{base k g:Nat}{e t:TypeId}{enc:α->List Value}{v:Value}{xs:List α}{cs:List Value}(h:OwnL w base e k enc v xs)(h':Row1 w g t cs)(he:e≠t):v.ownBlock≠some g:=fun hb=>by obtain⟨c1,h1⟩:=Z3d h hb;have h2:=h1.symm.trans h';injection h2 with h2;injection h2 with _ h2;exact he h2
structure DiskD where
 blocks:List ByteArray
 late:List (Nat×ByteArray)
 left:Int
 dead:Bool
def zeroB:ByteArray:=⟨Array.replicate 256 0⟩
theorem Z4q:zeroB.size=256:=by simp[zeroB,ByteArray.size]
def encS(s:ByteArray):List Value:= [.string s]
def encP(p:Nat×ByteArray):List Value:= [.int .i64 p.1,.string p.2]
theorem Z0d(s:ByteArray):(encS s).length=1:=rfl
theorem Z1n(s:ByteArray):∀u∈encS s,u.oneCell'=true:=by intro u hu;simp only[encS,List.mem_cons,List.not_mem_nil,or_false]at hu;rcases hu with rfl;rfl
theorem Y2y(p:Nat×ByteArray):(encP p).length=2:=rfl
theorem X5n(p:Nat×ByteArray):∀u∈encP p,u.oneCell'=true:=by intro u hu;simp only[encP,List.mem_cons,List.not_mem_nil,or_false]at hu;rcases hu with rfl | rfl<;>rfl
structure DiskWf (D:DiskD):Prop where
 one:1<=D.blocks.length
 many:D.blocks.length<=2048
 size:∀b∈D.blocks,b.size=256
 late:∀p∈D.late,p.1<D.blocks.length/\p.2.size=256
 fits:D.left<=9223372036854775807
structure DiskAs (w:World) (g:Nat) (F:Nat->Prop) (D:DiskD) (bv lv:Value):Prop where
 row:Row1 w g 202 [bv,lv,.int .i64 D.left,.bool D.dead,.string zeroB]
 blocks:OwnL w 0 9 1 encS bv D.blocks
 late:OwnL w 0 252 2 encP lv D.late
 fg:F g
 fb:∀b,bv.ownBlock=some b->F b
 fl:∀b,lv.ownBlock=some b->F b
 wf:DiskWf D
def DiskAt(w:World)(g:Nat)(F:Nat->Prop)(D:DiskD):Prop:=∃bv lv,DiskAs w g F D bv lv
section
variable {w w':World} {g:Nat} {F F' G:Nat->Prop} {D:DiskD} {bv lv:Value}
theorem DiskAs.only(h:DiskAs w g F D bv lv)(hb:Only G w w')(hG:∀i,F i->¬G i):DiskAs w' g F D bv lv:=
 ⟨hb.row h.row (hG g h.fg),h.blocks.only hb (fun k hk=>hG k (h.fb k hk)),h.late.only hb (fun k hk=>hG k (h.fl k hk)),h.fg,h.fb,h.fl,h.wf⟩
theorem DiskAs.ext(h:DiskAs w g F D bv lv)(hb:Ext w w'):DiskAs w' g F D bv lv:=h.only (G:=fun _=>False) (Only.of hb) (fun _ _ q=>q)
theorem DiskAs.mono(h:DiskAs w g F D bv lv)(hF:∀i,F i->F' i):DiskAs w g F' D bv lv:=⟨h.row,h.blocks,h.late,hF _ h.fg,fun b hb=>hF b (h.fb b hb),fun b hb=>hF b (h.fl b hb),h.wf⟩
theorem DiskAt.only(h:DiskAt w g F D)(hb:Only G w w')(hG:∀i,F i->¬G i):DiskAt w' g F D:=let ⟨_,_,h⟩:=h;⟨_,_,h.only hb hG⟩
theorem DiskAt.ext(h:DiskAt w g F D)(hb:Ext w w'):DiskAt w' g F D:=let ⟨_,_,h⟩:=h;⟨_,_,h.ext hb⟩
theorem DiskAt.mono(h:DiskAt w g F D)(hF:∀i,F i->F' i):DiskAt w g F' D:=let ⟨_,_,h⟩:=h;⟨_,_,h.mono hF⟩
theorem DiskAt.wf(h:DiskAt w g F D):DiskWf D:=let ⟨_,_,h⟩:=h;h.wf
end
structure Keeps (F F':Nat->Prop) (w w':World):Prop where
 only:Only F w w'
 new:∀i,F' i->F i\/w.heap.size<=i
section
variable {F F' F'':Nat->Prop} {w w' w'':World}
theorem Keeps.refl:Keeps F F w w:=⟨Only.refl,fun _ h=> .inl h⟩
theorem Keeps.of(h:Ext w w'):Keeps F F w w':=⟨Only.of h,fun _ h=> .inl h⟩
theorem Keeps.trans(h:Keeps F F' w w')(k:Keeps F' F'' w' w''):Keeps F F'' w w'':=
 ⟨h.only.trans k.only h.new,fun i q=>by
   rcases k.new i q with q | q
   ·exact h.new i q
   ·exact .inr (Nat.le_trans h.only.size q)⟩
theorem Keeps.ext(h:Keeps F F' w w')(k:Ext w' w''):Keeps F F' w w'':=⟨h.only.ext k,h.new⟩
theorem Keeps.out(h:Keeps F F' w w'){i:Nat}(hi:i<w.heap.size)(hn:¬F i):¬F' i:=fun q=>by
 rcases h.new i q with q | q
 ·exact hn q
 ·omega
end
def Z4j(D:DiskD)(n:Int):Int:=if D.dead=true then 11 else if n<0\/(D.blocks.length:Int)<=n then 10 else 0
def useD(D:DiskD):DiskD×Int:=if D.left=0 then({ D with dead:=true},11)else if 0<D.left then({ D with left:=D.left-1},0)else(D,0)
def Z2z(n:Nat)(late:List (Nat×ByteArray))(s:ByteArray):ByteArray:=late.foldl (fun s p=>if p.1=n then p.2 else s) s
def Z0x(D:DiskD)(n:Nat):ByteArray:=Z2z n D.late (D.blocks[n]?.getD zeroB)
def padB(s:ByteArray):ByteArray:=s++zeroB.extract s.size 256
def Z1d(D:DiskD)(n:Int)(s:ByteArray):DiskD×Int:=
 if Z4j D n≠0 then(D,Z4j D n)else if 256<s.size then(D,21)else if(useD D).2≠0 then useD D else({ (useD D).1 with late:=(useD D).1.late++ [(n.toNat,padB s)]},0)
def layB(late:List (Nat×ByteArray))(blocks:List ByteArray):List ByteArray:=late.foldl (fun b p=>b.set p.1 p.2) blocks
def Z0v(D:DiskD):DiskD×Int:=
 if Z4j D 0≠0 then(D,Z4j D 0)else if(useD D).2≠0 then useD D else({ (useD D).1 with blocks:=layB D.late D.blocks,late:= []},0)
theorem V3x{P:Program}(w:World)(t e:TypeId)(a:Option Addr)(l c:Nat)(h:P.underlying t=some (.slice e)):(binOp .eql t (.slice a l c) (.slice none 0 0)).run P w= .ok (.bool a.isNone) w:=by simp only[binOp];simp[run_equal_slice_nil w t e a l c h]
theorem X5m{P:Program}(w:World)(t e:TypeId)(a:Addr)(l c:Nat)(h:P.underlying t=some (.slice e)):(binOp .eql t (.slice (some a) l c) (.slice none 0 0)).run P w= .ok (.bool false) w:=V3x w t e (some a) l c h
def bts(l:List UInt8):ByteArray:=⟨l.toArray⟩
theorem Z0e(l:List UInt8):(bts l).size=l.length:=by simp[bts,ByteArray.size]
theorem Z1r(l:List UInt8):(bts l).data.toList=l:=by simp[bts]
theorem X5y(s:ByteArray):bts s.data.toList=s:=by simp[bts]
theorem Z7y(a b:List UInt8):bts a++bts b=bts (a++b):=by rw[ByteArray.ext_iff];simp[bts]
theorem V4t(n:Nat):bts (List.replicate n 0)=⟨Array.replicate n 0⟩:=by simp[bts]
theorem Z8q:bts (List.replicate 256 0)=zeroB:=V4t 256
theorem U1n:bts []=ByteArray.empty:=rfl
def encU(b:UInt8):List Value:= [.int .u8 b.toNat]
theorem Z4n(b:UInt8):(encU b).length=1:=rfl
theorem Y2x(b:UInt8):∀u∈encU b,u.oneCell'=true:=by intro u hu;simp only[encU,List.mem_cons,List.not_mem_nil,or_false]at hu;rcases hu with rfl;rfl
theorem Tryz.elemU8:(Tryz.prog.info? 5).map (fun i=>(i.zero,i.size,i.bytes))=some (some (.int .u8 0),1,1):=by kernel_rfl
abbrev OwnB(w:World)(base:Nat)(v:Value)(l:List UInt8):Prop:=OwnL w base 5 1 encU v l
theorem V3s(l:List UInt8)(j:Nat)(hj:j<l.length):(l.flatMap encU)[j]? =some (.int .u8 (l[j].toNat:Int)):=by have:=Z3j encU 1 Z4n l j _ (aB hj) 0 _ rfl;simpa using this
theorem OwnB.text{w:World}{base:Nat}{v:Value}{l:List UInt8}(h:OwnB w base v l):(convert 106 9 v).run Tryz.prog w= .ok (.string (bts l)) w:=by
 have h':w.ownsRow base 5 1 v l.length (l.flatMap encU):=h;obtain⟨A,c,rfl,_,_,hx⟩:=Z3c h';by_cases h0:l.length=0
 ·obtain rfl:l= []:=List.eq_nil_of_length_eq_zero h0;rcases h'.2 with ⟨he,_⟩ | ⟨g,cap,cur,he,_⟩
  ·injection he with e1 e2 e3;subst e1;rw[U1n];exact run_convert_bytes_nil (P:=Tryz.prog) w 106 5 Tryz.underlying106 Tryz.underlying5 0 c 9 Tryz.underlying9
  ·injection he with e1 e2 e3;subst e1;exact run_convert_bytes_back (P:=Tryz.prog) w 106 9 5 ⟨g,0,none⟩ c [] Tryz.underlying106 Tryz.underlying5 Tryz.underlying9 (fun j hj=>absurd hj (by simp))
 ·obtain⟨g,rfl,_,_,_,hc⟩:=hx (by omega);exact run_convert_bytes_back (P:=Tryz.prog) w 106 9 5 ⟨g,0,none⟩ c l Tryz.underlying106 Tryz.underlying5 Tryz.underlying9 (fun j hj=>by rw[Addr.add_lit,Nat.zero_add];exact hc j _ (V3s l j hj))
theorem V9q(n:Nat):(madeCells (Value.int .u8 0).cells (n*1)).toList=(List.replicate n (0:UInt8)).flatMap encU:=by
 apply List.ext_getElem?;intro j;rw[Nat.mul_one];by_cases hj:j<n
 ·rw[V3s _ j (by simpa using hj)];have e:j%1=0:=Nat.mod_one j;simp[madeCells,Value.cells,hj,e]
 ·rw[List.getElem?_eq_none (by simp[madeCells,Value.cells];omega),List.getElem?_eq_none (by rw[Z3i encU 1 Z4n];simp;omega)]
theorem Y2d(w:World){ops:Array Oper}{rest:List Oper}{o:Oper}{a:Act}{Q:Exit->Act->World->Prop}(hg:o.guard=none)(l c:Operand)(hop:o.op=Op.makeSlice 106 l c)
 {L C:Int}(n:Nat)(hl:a.eval l= .int .i64 L)(hc:a.eval c= .int .i64 C)(hL:L=(n:Int))(hC:C=(n:Int))(hn:n<=1000000000)
 (hK:∀w',OwnB w' w.heap.size (.slice (some ⟨w.heap.size,0,none⟩) n n) (List.replicate n 0)->Ext w w'->wpList Tryz.prog ops Q rest (a.put o.dst (.slice (some ⟨w.heap.size,0,none⟩) n n)) w'):
  wpList Tryz.prog ops Q (o::rest) a w:=by
 obtain⟨i,hi,hz,hs,hb⟩:=info_parts Tryz.elemU8;refine wpList_make_full w hg l c 106 hop w.heap.size 5 i (.int .u8 0) 1 Tryz.underlying106 hi hz hs .i64 .i64 L C n hl hc hL hC (by rw[hb];omega) (by simp[maxLen];omega) (aF _) (fun w' h1 h2=>hK w' ?_ ⟨h2.os,h2.tape,h2.output,h2.size,fun k hk=>h2.block k hk (by simp)⟩);rw[V9q]at h1;unfold OwnB OwnL;rw[List.length_replicate];exact h1
theorem Y9e(w:World){ops:Array Oper}{rest:List Oper}{o:Oper}{a:Act}{Q:Exit->Act->World->Prop}(hg:o.guard=none)(l c:Operand)(hop:o.op=Op.makeSlice 106 l c)
 {C:Int}(n:Nat)(hl:a.eval l= .int .i64 0)(hc:a.eval c= .int .i64 C)(hC:C=(n:Int))(hn:n<=1000000000)
 (hK:∀w',OwnB w' w.heap.size (.slice (some ⟨w.heap.size,0,none⟩) 0 n) []->Ext w w'->wpList Tryz.prog ops Q rest (a.put o.dst (.slice (some ⟨w.heap.size,0,none⟩) 0 n)) w'):
  wpList Tryz.prog ops Q (o::rest) a w:=by
 obtain⟨i,hi,hz,hs,hb⟩:=info_parts Tryz.elemU8;refine wpList_make_own w hg l c 106 hop w.heap.size 5 i (.int .u8 0) 1 Tryz.underlying106 hi hz hs .i64 .i64 C n hl hc hC (by rw[hb];omega) (by simp[maxLen];omega) (aF _) (fun w' h1 h2=>hK w' ?_ ⟨h2.os,h2.tape,h2.output,h2.size,fun k hk=>h2.block k hk (by simp)⟩);unfold OwnB OwnL;simpa using h1
theorem X8z(w:World):cQ 111 #[] w fun e w'=>e= .returned (.string zeroB)/\Ext w w':=by go_enter Tryz.func111,Tryz.ntmps111;go_wp2_with (at_make;refine Y2d _ rfl _ _ rfl 256 rfl rfl rfl rfl (by omega) ?_;intro w1 h1 hb1);have hc:=h1.text;rw[Z8q]at hc;go_wp2_with fail;(try (rw [hc];simp only[Result.andThen];rw[Oper.upon_value]));go_wp2_with fail;go_ret;exact⟨rfl,hb1⟩
theorem or64(a x j:Nat)(ha:a<2 ^ j)(hx:x*2 ^ j<18446744073709551616)(h64:2 ^ j<=18446744073709551616):bits .or .u64 (a:Int) ((x*2 ^ j:Nat):Int)=((a+x*2 ^ j:Nat):Int):=by rw[bits_or_u64_nat a _ (by omega) hx,Nat.or_comm,Nat.mul_comm x,<-Nat.two_pow_add_eq_or_of_lt ha x,Nat.add_comm]
theorem nat8:∀x:Fin 256,(x.val ||| 128=x.val%128+128/\x.val ^^^ 255=255-x.val)/\x.val &&& 127=x.val%128/\x.val &&& 1=x.val%2:=by decide
theorem or8(x:Nat)(h:x<256):bits .or .u8 (x:Int) 128=((x%128+128:Nat):Int):=by have:=u8_or_nat x 128 h (by decide);rw[(nat8 ⟨x,h⟩).1.1]at this;exact this
theorem xor8(x:Nat)(h:x<256):bits .xor .u8 (x:Int) 255=((255-x:Nat):Int):=by have:=u8_xor_nat x 255 h (by decide);rw[(nat8 ⟨x,h⟩).1.2]at this;exact this
theorem U2l(x:Nat)(h:x<256):bits .and .u8 (x:Int) 127=((x%128:Nat):Int):=by have:=u8_and_nat x 127 h (by decide);rw[(nat8 ⟨x,h⟩).2.1]at this;exact this
theorem and1(x:Nat)(h:x<256):bits .and .u8 (x:Int) 1=((x%2:Nat):Int):=by have:=u8_and_nat x 1 h (by decide);rw[(nat8 ⟨x,h⟩).2.2]at this;exact this
theorem X9a(r:Nat)(h:r<2 ^ 63):r ^^^ 2 ^ 63=r+2 ^ 63:=by
 apply Nat.eq_of_testBit_eq;intro i;rw[Nat.testBit_xor,Nat.testBit_two_pow,Nat.add_comm];rcases Nat.lt_trichotomy i 63 with h1 | h1 | h1
 ·rw[Nat.testBit_two_pow_add_gt h1];have e:decide (63=i)=false:=aM;rw[e,Bool.xor_false]
 ·subst h1;rw[Nat.testBit_two_pow_add_eq,decide_eq_true rfl,Bool.xor_true]
 ·have e1:r.testBit i=false:=Nat.testBit_lt_two_pow (aE h (Nat.pow_le_pow_right (by decide) (by omega)));have e2:(2 ^ 63+r).testBit i=false:=Nat.testBit_lt_two_pow (aE (show 2 ^ 63+r<2 ^ 64 by omega) (Nat.pow_le_pow_right (by decide) (by omega)));have e:decide (63=i)=false:=aM;rw[e1,e2,e];rfl
theorem U2c(u:Nat)(h:u<18446744073709551616):u ^^^ 9223372036854775808=(u+9223372036854775808)%18446744073709551616:=by
 have e:(9223372036854775808:Nat)=2 ^ 63:=by decide
 rw[e];by_cases h1:u<2 ^ 63
 ·rw[X9a u h1];omega
 ·have h2:u-2 ^ 63<2 ^ 63:=by omega
  have h3:=X9a (u-2 ^ 63) h2;have h4:u=(u-2 ^ 63) ^^^ 2 ^ 63:=by rw[h3];omega
  conv=>lhs;rw[h4,Nat.xor_assoc,Nat.xor_self,Nat.xor_zero]
  omega
theorem U2s(x:Nat)(h:x<18446744073709551616):x ^^^ 18446744073709551615=18446744073709551615-x:=by
 have h1:(BitVec.ofNat 64 x ^^^ BitVec.allOnes 64).toNat=(~~~ BitVec.ofNat 64 x).toNat:=by rw[BitVec.xor_allOnes]
 rw[BitVec.toNat_xor,BitVec.toNat_not,BitVec.toNat_allOnes,BitVec.toNat_ofNat,Nat.mod_eq_of_lt (by simpa using h)]at h1;simpa using h1
theorem elU8:Elem Tryz.prog 106 5 1 1:=Elem.of Tryz.underlying106 Tryz.elemU8 rfl (by decide)
theorem V8i(n:Int)(w:World)(h1: -9223372036854775808<=n)(h2:n<=9223372036854775807):cQ 40 #[.int .i64 n] w fun e w'=>e= .returned (.int .u64 (Z4i n))/\w=w':=by
 have hx:bits .xor .u64 (IntKind.u64.wrap (IntKind.u64.wrap n*2)) (IntKind.u64.wrap (n/9223372036854775808))=(Z4i n:Int):=by
  rw[IntKind.wrap_u64,IntKind.wrap_u64,IntKind.wrap_u64];by_cases h0:0<=n
  ·have e1:n/9223372036854775808%18446744073709551616=((0:Nat):Int):=by omega
   have e2:n%18446744073709551616*2%18446744073709551616=((2*n).toNat:Int):=by omega
   rw[e1,e2,bits_xor_u64_nat _ _ (by omega) (by omega),Nat.xor_zero];unfold Z4i;rw[if_pos h0]
  ·have e1:n/9223372036854775808%18446744073709551616=((18446744073709551615:Nat):Int):=by omega
   have e2:n%18446744073709551616*2%18446744073709551616=((2*n+18446744073709551616).toNat:Int):=by omega
   rw[e1,e2,bits_xor_u64_nat _ _ (by omega) (by omega),U2s _ (by omega)];unfold Z4i;rw[if_neg h0];omega
 have HX:=hD hx;clear hx;go_enter Tryz.func40,Tryz.ntmps40;go_wp2_with fail;go_ret;exact⟨by rw[<-HX.out];rfl,rfl⟩
theorem V7z(x:Int)(h1: -9223372036854775808<=x)(h2:x<=9223372036854775807):bits .xor .i64 x 0=x:=by show IntKind.i64.wrap ((BitVec.ofInt 64 x ^^^ BitVec.ofInt 64 0).toNat:Int)=_;rw[show BitVec.ofInt 64 0=0#64 from rfl,BitVec.xor_zero,IntKind.wrap_i64,BitVec.toNat_ofInt];omega
theorem V7y(x:Nat)(h2:x<9223372036854775808):bits .xor .i64 (x:Int) (-1)= -(x:Int)-1:=by show IntKind.i64.wrap ((BitVec.ofInt 64 (x:Int) ^^^ BitVec.ofInt 64 (-1)).toNat:Int)=_;rw[show BitVec.ofInt 64 (-1)=BitVec.allOnes 64 from by decide,BitVec.xor_allOnes,BitVec.toNat_not,BitVec.toNat_ofInt,IntKind.wrap_i64];omega
theorem X6n(u:Nat)(w:World)(h:u<18446744073709551616):cQ 101 #[.int .u64 u] w fun e w'=>e= .returned (.int .i64 (Y0v u))/\w=w':=by
 have hx:bits .xor .i64 ((u:Int)/2) (wrap64 (-wrap64 (bits .and .u64 (u:Int) 1)))=Y0v u:=by
  have e1:bits .and .u64 (u:Int) 1=((u%2:Nat):Int):=by have:=bits_and_u64_nat u 1 h (by decide);rw[Nat.and_one_is_mod]at this;exact this
  rw[e1];unfold Y0v;by_cases h0:u%2=0
  ·have z:wrap64 (-wrap64 ((0:Nat):Int))=0:=by unfold wrap64;omega
   rw[h0,if_pos rfl,z];exact V7z ((u/2:Nat):Int) (by omega) (by omega)
  ·have h0:u%2=1:=by omega
   have z:wrap64 (-wrap64 ((1:Nat):Int))= -1:=by unfold wrap64;omega
   rw[h0,if_neg (by decide),z];exact V7y (u/2) (by omega)
 have HX:=hD hx;clear hx;go_enter Tryz.func101,Tryz.ntmps101;go_wp2_with fail;go_ret;exact⟨by rw[<-HX.out];rfl,rfl⟩
theorem X9j(k m:Nat)(h:128<=m)(hk:m<2*128 ^ k):∃j,k=j+1/\m/128<2*128 ^ j/\varF k m=UInt8.ofNat (m%128+128)::varF j (m/128):=by
 cases k with
 | zero=>simp at hk;omega
 | succ j=>
   refine⟨j,rfl,?_,by rw[varF,if_pos h]⟩;rw[Nat.pow_succ]at hk;exact Nat.div_lt_of_lt_mul (by rw[Nat.mul_comm 128];omega)
theorem X9k(k m:Nat)(h:m<128):varF k m= [UInt8.ofNat m]:=by
 cases k with
 | zero=>rfl
 | succ j=>rw[varF,if_neg (by omega)]
theorem U0d(n:Nat)(w:World)(h:n<18446744073709551616):cQ 39 #[.int .u64 n] w fun e w'=>e= .returned (.string (bts (varL n)))/\Ext w w':=by
 have H0:Hid (n<2*128 ^ 9):=by unfold Hid;omega
 go_enter Tryz.func39,Tryz.ntmps39;go_wp2_with fail
 go_loopw [0,3] (fun x v wr=>∃(m k:Nat) (acc:List UInt8),x= .int .u64 m/\Hid (m<2*128 ^ k)/\m<18446744073709551616/\acc.length+k=9/\Hid (varL n=acc++varF k m)/\OwnB wr w.heap.size v acc/\Ext w wr) (fun x _ _=>(intOf x).toNat)
 case atStart=>exact⟨n,9,[],rfl,H0,h,rfl,rfl,OwnL.nil _ _ _ _ _,Ext.refl _⟩
 case round=>
  obtain⟨m,k,acc,rfl,hk,hm,hl,hv,ho,hx⟩:=hrel;have HO:=hD ho;have HX:=hD hx;have hz:=hx.size;obtain⟨A,c,rfl⟩:=ho.form;clear ho hx;by_cases hq:128<=m
  ·have q1:decide (128<=(m:Int))=true:=aN;obtain⟨b,hb⟩:∃b:UInt8,b=UInt8.ofNat (m%128+128):=⟨_,rfl⟩;have hbn:b.toNat=m%128+128:=by rw[hb];exact Z2a (by omega)
   have hor:bits .or .u8 ((m:Int)%256) 128=(b.toNat:Int):=by
    have e:(m:Int)%256=((m%256:Nat):Int):=by omega
    rw[e,or8 _ (by omega),hbn]
    congr 1
    omega
   have HN:Hid (∃j,k=j+1/\m/128<2*128 ^ j/\varL n=(acc++ [b])++varF j (m/128)):=by obtain⟨j,q1,q2,q3⟩:=X9j k m hq hk.out;exact⟨j,q1,q2,by rw[hv.out,q3,hb];simp⟩
   clear hbn hb;go_wp2_with (at_builtin;refine Z0u elU8 Z4n Y2x rfl (.tmp 6) (.tmp 10) rfl (.slice A acc.length c) acc rfl (HO.out.ext (by exact Xt)) (by simp;omega) _ 1 b rfl (Row1.made' (by simp) _ (encU b)) (by omega) (by decide) ?_;intro A' c' w2 hown2 hgr hwh);have hx2:Ext w w2:=OwnL.grown (HO.out.ext (by exact Xt)) (by exact Xx (HX.out)) hgr (aF _);rw[aA,aK]at hown2
   go_roundw
   case rel=>
    obtain⟨j,r1,r2,r3⟩:=HN.out;exact⟨m/128,j,acc++ [b],by simp,r2,by omega,by simp;omega,r3,hown2,hx2⟩
   case measure=>simp[intOf];omega
  ·have q1:decide (128<=(m:Int))=false:=aM;obtain⟨b,rfl⟩:∃b:UInt8,b.toNat=m:=⟨UInt8.ofNat m,Z2a (by omega)⟩;have HV:Hid (varL n=acc++ [b]):=by unfold Hid;rw[hv.out,X9k k _ (by omega)];simp
   go_wp2_with (at_builtin;refine Z0u elU8 Z4n Y2x rfl (.tmp 14) (.tmp 17) rfl (.slice A acc.length c) acc rfl (HO.out.ext (by exact Xt)) (by simp;omega) _ 1 b rfl (Row1.made' (by simp) _ (encU b)) (by omega) (by decide) ?_;intro A' c' w2 hown2 hgr hwh);have hx2:Ext w w2:=OwnL.grown (HO.out.ext (by exact Xt)) (by exact Xx (HX.out)) hgr (aF _);have hc:=OwnB.text hown2;rw[aA,aK,<-HV.out]at hc;go_wp2_with fail;(try (rw [hc];simp only[Result.andThen];rw[Oper.upon_value]));go_wp2_with fail;go_ret;exact⟨rfl,hx2⟩
def Z0g(n k:Nat):List UInt8:=(List.range k).map fun i=>UInt8.ofNat (n/2 ^ (8*i)%256)
theorem Z0m(n k:Nat):(Z0g n k).length=k:=by simp[Z0g]
theorem X3a(n k:Nat):Z0g n (k+1)=Z0g n k++ [UInt8.ofNat (n/2 ^ (8*k)%256)]:=by simp[Z0g,List.range_succ]
def upN(l:List UInt8):Nat->Nat
 | 0=>0
 | k+1=>upN l k+(l[k]?.getD 0).toNat*2 ^ (8*k)
theorem X9n(l:List UInt8):∀k,upN l k<2 ^ (8*k)
 | 0=>by simp[upN]
 | k+1=>by
   have h1:=X9n l k;have h2:(l[k]?.getD 0).toNat*2 ^ (8*k)<=255*2 ^ (8*k):=Nat.mul_le_mul_right _ (by have:=(l[k]?.getD 0).toNat_lt;omega);have h3:2 ^ (8*(k+1))=256*2 ^ (8*k):=by rw[Nat.mul_add,Nat.pow_add,Nat.mul_comm]
   unfold upN;omega
theorem Y9h(n j:Nat):∀k,k<=j->upN (Z0g n j) k=n%2 ^ (8*k)
 | 0,_=>by simp[upN,Nat.mod_one]
 | k+1,h=>by
   unfold upN;rw[Y9h n j k (by omega)];have e:(Z0g n j)[k]?.getD 0=UInt8.ofNat (n/2 ^ (8*k)%256):=by unfold Z0g;rw[List.getElem?_map,List.getElem?_range (by omega)];rfl
   rw[e,Z2a (Nat.mod_lt _ (by decide))];have h3:2 ^ (8*(k+1))=2 ^ (8*k)*256:=by rw[Nat.mul_add,Nat.pow_add]
   rw[h3,Nat.mod_mul,Nat.mul_comm (2 ^ (8*k))]
def Z3x(l:List UInt8):Nat:=upN l l.length
theorem Z9r(n k:Nat):Z3x (Z0g n k)=n%2 ^ (8*k):=by unfold Z3x;rw[Z0m];exact Y9h n k k (aF _)
theorem pow8(k:Nat)(h:k<=7):2 ^ (8*k)*256<=18446744073709551616:=by
 have:k=0\/k=1\/k=2\/k=3\/k=4\/k=5\/k=6\/k=7:=by omega
 rcases this with h | h | h | h | h | h | h | h<;>subst h<;>decide
theorem Z8z(s:ByteArray)(h8:s.size<=8)(w:World):cQ 136 #[.string s] w fun e w'=>e= .returned (.int .u64 (Z3x s.data.toList))/\w=w':=by
 have h8':¬(8:Int)<s.size:=by omega
 have hl:s.data.toList.length=s.size:=by rw[Array.length_toList];rfl
 have HU:Hid (Z3x s.data.toList=upN s.data.toList s.size):=by unfold Hid Z3x;rw[hl]
 rw[HU.out];go_enter Tryz.func136,Tryz.ntmps136;go_wp2_with fail
 go_loopw [3,8] (fun n v wr=>∃(k:Nat),n= .int .u64 (upN s.data.toList k)/\v= .int .i64 k/\k<=s.size/\w=wr) (fun _ v _=>s.size-(intOf v).toNat)
 case atStart=>exact⟨0,rfl,rfl,by omega,rfl⟩
 case round=>
  obtain⟨k,rfl,rfl,hk,rfl⟩:=hrel;by_cases hq:k<s.size
  ·have hq2:k<8:=by omega
   have hq3:(k:Int)<s.size:=by omega
   have hq4:(8:Int)*k<64:=by omega
   have hor:bits .or .u64 (upN s.data.toList k:Int) (IntKind.u64.wrap (IntKind.u64.wrap (s[k].toNat:Int)*2 ^ (8*k)))=(upN s.data.toList (k+1):Int):=by
    have hb:=s[k].toNat_lt;have e0:s.data.toList[k]?.getD 0=s[k]:=by rw[aB (by omega)];simp[ByteArray.getElem_eq_getElem_data]
    have h1:s[k].toNat*2 ^ (8*k)<18446744073709551616:=aE (by rw[Nat.mul_comm];exact(Nat.mul_lt_mul_left (Nat.two_pow_pos _)).2 hb) (pow8 k (by omega));have e1:IntKind.u64.wrap (s[k].toNat:Int)=(s[k].toNat:Int):=by rw[IntKind.wrap_u64];omega
    have e2:(s[k].toNat:Int)*2 ^ (8*k)=((s[k].toNat*2 ^ (8*k):Nat):Int):=by simp
    have e3:IntKind.u64.wrap ((s[k].toNat*2 ^ (8*k):Nat):Int)=((s[k].toNat*2 ^ (8*k):Nat):Int):=by rw[IntKind.wrap_u64];omega
    rw[e1,e2,e3,or64 _ _ _ (X9n _ k) h1 (by have:=pow8 k (by omega);omega)];show _=((upN s.data.toList k+(s.data.toList[k]?.getD 0).toNat*2 ^ (8*k):Nat):Int);rw[e0]
   go_wp2_with fail
   go_roundw
   case rel=>exact⟨k+1,rfl,by go_num,by omega,trivial⟩
   case measure=>simp[intOf];omega
  ·obtain rfl:k=s.size:=by omega
   go_wp2_with fail;go_ret;exact⟨rfl,rfl⟩
def BytesAt(w:World)(g:Nat)(l:List UInt8):Prop:=∃(rest:List Value) (z:Nat×Nat),w.heap[g]? =some (.cells (l.flatMap encU++rest).toArray 5 z)/\l.length<=z.1
section
variable {w w':World} {g:Nat} {l:List UInt8}
theorem X1c(l:List UInt8):(l.flatMap encU).length=l.length:=by rw[Z3i encU 1 Z4n,Nat.mul_one]
theorem BytesAt.cell(h:BytesAt w g l)(i:Nat)(hi:i<l.length):w.cell? ⟨g,i,none⟩=some (.int .u8 (l[i].toNat:Int)):=by obtain⟨r,z,h,h2⟩:=h;simp only[World.cell?,h];rw[List.getElem?_toArray,aL (by rw[X1c];exact hi),V3s l i hi];rfl
theorem BytesAt.soft(h:BytesAt w g l)(i:Nat)(hi:i<l.length):w.frozen? ⟨g,i,none⟩=false:=by obtain⟨r,z,h,h2⟩:=h;simp only[World.frozen?,h];simp;omega
theorem BytesAt.set(h:BytesAt w g l)(i:Nat)(hi:i<l.length)(b:UInt8):BytesAt (w.setCell ⟨g,i,none⟩ (.int .u8 (b.toNat:Int))) g (l.set i b):=by obtain⟨r,z,h,h2⟩:=h;have e:=Y0j encU 1 Z4n l i l[i] 0 (.int .u8 (b.toNat:Int)) b hi rfl (by omega) rfl;rw[Nat.mul_one,Nat.add_zero]at e;refine⟨r,z,?_,by rw[List.length_set];exact h2⟩;rw[<-e];simp[World.setCell,Array.getElem?_modify,h,List.set_append_left _ _ (show i<(l.flatMap encU).length by rw[X1c];exact hi)]
theorem BytesAt.text(h:BytesAt w g l)(c n:Nat)(hn:n=l.length):(convert 106 9 (.slice (some ⟨g,0,none⟩) n c)).run Tryz.prog w= .ok (.string (bts l)) w:=by subst hn;exact run_convert_bytes_back (P:=Tryz.prog) w 106 9 5 ⟨g,0,none⟩ c l Tryz.underlying106 Tryz.underlying5 Tryz.underlying9 (fun j hj=>by rw[Addr.add_lit,Nat.zero_add];exact h.cell j hj)
end
theorem X5w(w:World)(s:ByteArray):∃(c:Nat) (w1:World),(convert 9 106 (.string s)).run Tryz.prog w= .ok (.slice (some ⟨w.heap.size,0,none⟩) s.size c) w1/\BytesAt w1 w.heap.size s.data.toList/\Ext w w1/\w1.heap.size=w.heap.size+1:=by
 refine⟨_,_,run_bytes_of_string w 9 106 5 s Tryz.underlying9 Tryz.underlying106 Tryz.underlying5,?_,Below.alloc (Below.drew (Ext.refl w)) (aF _) _,by simp⟩;refine⟨List.replicate (grownCap w s.size 0 5-s.size) (.int .u8 0),((bytesRow s (grownCap w s.size 0 5)).size,(bytesRow s (grownCap w s.size 0 5)).size+1),?_,?_⟩
 ·refine(heap_alloc_new w.drew _).trans ?_
  congr 2
  unfold bytesRow;apply Array.ext';have e:∀l:List UInt8,l.flatMap encU=l.map (fun b=>Value.int .u8 (b.toNat:Int)):=fun l=>by
   induction l with
   | nil=>rfl
   | cons b r ih=>rw[aI,ih];rfl
  simp[e]
 ·simp[bytesRow]
theorem V1u(s:ByteArray)(w:World)(hs:s.size<=1000000000):cQ 199 #[.string s] w fun e w'=>e= .returned (.string (bts (s.data.toList.map fun b=>UInt8.ofNat (255-b.toNat))))/\Ext w w':=by
 have hl:s.data.toList.length=s.size:=by rw[Array.length_toList];rfl
 obtain⟨l,hl0⟩:∃l,s.data.toList=l:=⟨_,rfl⟩;obtain⟨c,w1,hc,hB,hx,hz⟩:=X5w w s;rw[hl0]at hl hB;rw[hl0];obtain⟨f,hf⟩:∃f:UInt8->UInt8,f=fun b=>UInt8.ofNat (255-b.toNat):=⟨_,rfl⟩;rw[<-hf];rw[<-hl]at hc;have HB:=hD hB;have HX:=hD hx;clear hB hx hl0;go_enter Tryz.func199,Tryz.ntmps199;go_wp2_with fail;clear hc
 go_loopw [9] (fun i wr=>∃k:Nat,k<=l.length/\i= .int .i64 k/\BytesAt wr w.heap.size ((l.take k).map f++l.drop k)/\Ext w wr) (fun i _=>l.length-(intOf i).toNat)
 case atStart=>exact⟨0,by omega,rfl,by simpa using HB.out,HX.out⟩
 case round=>
  obtain⟨k,hk,rfl,hb,hx⟩:=hrel;have HK:=hD hb;have HXK:=hD hx;have hzr:=hx.size;clear hb hx;by_cases hq:k<l.length
  ·have hlen:((l.take k).map f++l.drop k).length=l.length:=by simp;omega
   have hel:((l.take k).map f++l.drop k)[k]'(by rw[hlen];exact hq)=l[k]:=by rw[List.getElem_append_right (by simp;omega)];simp[Nat.min_eq_left hk]
   have hxx:bits .xor .u8 (l[k].toNat:Int) 255=((f l[k]).toNat:Int):=by rw[xor8 _ l[k].toNat_lt,hf,Z2a (by omega)]
   have hck:wr.cell? ⟨w.heap.size,k,none⟩=some (.int .u8 (l[k].toNat:Int)):=by rw[HK.out.cell k (by rw[hlen];exact hq),hel]
   have hfk:wr.frozen? ⟨w.heap.size,k,none⟩=false:=HK.out.soft k (by rw[hlen];exact hq);have HS:Hid (((l.take k).map f++l.drop k).set k (f l[k])=(l.take (k+1)).map f++l.drop (k+1)):=by
    unfold Hid;have e:k-((l.take k).map f).length=0:=by simp;omega
    rw[List.set_append_right _ _ (by simp;omega),e,List.drop_eq_getElem_cons hq,List.set_cons_zero,List.take_add_one,aB hq,List.map_append];simp
   have HT:=hD (HK.out.set k (by rw[hlen];exact hq) (f l[k]));rw[HS.out]at HT;clear hel hf;generalize f l[k]=b at *;go_wp2_with fail
   go_roundw
   case rel=>exact⟨k+1,by omega,by go_num,HT.out,by exact Xx (HXK.out)⟩
   case measure=>simp[intOf];omega
  ·obtain rfl:k=l.length:=by omega
   have hc:=HK.out.text c s.size (by simp;omega);rw[List.take_length,List.drop_length,List.append_nil]at hc;clear hf;go_wp2_with fail;go_ret;exact⟨rfl,HXK.out⟩
theorem Z5d(n z:Nat)(hz:z<=8)(hn:n<18446744073709551616)(w:World):cQ 144 #[.int .u64 n,.int .i64 z] w fun e w'=>e= .returned (.string (bts (Z0g n z)))/\Ext w w':=by
 go_enter Tryz.func144,Tryz.ntmps144;go_upto_region 2 with (at_make;refine Y9e _ rfl _ _ rfl 8 rfl rfl rfl (by omega) ?_;intro w1 h1 hb1)
 go_cut [8,9,10,11] (fun _ _ v i wx=>v= .int .i64 z/\i= .int .i64 0/\w1=wx)
 case first=>
  have q1:¬(8:Int)<z:=by omega
  have q2:¬(z:Int)<0:=by omega
  go_wp2_with fail
  all_goals (go_meet;exact⟨by first | rfl | (congr 1;omega),rfl,rfl⟩)
 case rest=>
 obtain⟨rfl,rfl,rfl⟩:=hcut;have H1:=hD h1;have HB1:=hD hb1;have hz1:=hb1.size;clear h1 hb1;go_wp2_with fail
 go_loopw [5,11] (fun v i wr=>∃k:Nat,k<=z/\i= .int .i64 k/\OwnB wr w.heap.size v (Z0g n k)/\Ext w wr) (fun _ i _=>z-(intOf i).toNat)
 case atStart=>exact⟨0,by omega,rfl,H1.out,HB1.out⟩
 case round=>
  obtain⟨k,hk,rfl,ho,hx⟩:=hrel;obtain⟨A,c,rfl⟩:=OwnL.form ho;have HFL:=hD (Z0m n k);have HO:=hD ho;have HX:=hD hx;have hzr:=hx.size;clear ho hx;by_cases hq:k<z
  ·have hq4:(8:Int)*k<64:=by omega
   obtain⟨b,hb⟩:∃b:UInt8,b=UInt8.ofNat (n/2 ^ (8*k)%256):=⟨_,rfl⟩;have hbn:((n:Int)/2 ^ (8*k))%256=(b.toNat:Int):=by rw[hb,Z2a (Nat.mod_lt _ (by decide))];simp
   have HN:Hid (Z0g n k++ [b]=Z0g n (k+1)):=by unfold Hid;rw[X3a,hb]
   have HBN:=hD hbn;clear hb hbn;go_wp2_with (at_builtin;refine Z0u elU8 Z4n Y2x rfl (.tmp 14) (.tmp 21) rfl (.slice A (Z0g n k).length c) (Z0g n k) rfl (HO.out.ext (by exact Xt)) (by simp;omega) _ 1 b rfl (by unfold encU;rw[<-HBN.out];exact Row1.made' (by simp) _ [_]) (by rw[HFL.out];omega) (by decide) ?_;intro A' c' w2 hown2 hgr hwh);have hx2:Ext w w2:=OwnL.grown (HO.out.ext (by exact Xt)) (by exact Xx (HX.out)) hgr (aF _);rw[HN.out]at hown2;have HFL2:=Z0m n (k+1);rw[HFL2]at hown2
   go_roundw
   case rel=>exact⟨k+1,by omega,by go_num,by rw[HFL.out];exact hown2,hx2⟩
   case measure=>simp[intOf];omega
  ·obtain rfl:k=z:=by omega
   have hc:=OwnB.text HO.out;go_wp2_with fail;go_ret;exact⟨rfl,HX.out⟩
def ordU(n:Int):Nat:=(n+9223372036854775808).toNat
def ordL(n:Int):List UInt8:=(List.range 8).map fun i=>UInt8.ofNat (ordU n/2 ^ (56-8*i)%256)
theorem Z1k(n:Int):(ordL n).length=8:=by simp[ordL]
theorem V1o(n:Int)(i:Nat)(h:i<8):(ordL n)[i]'(by rw[Z1k];exact h)=UInt8.ofNat (ordU n/2 ^ (56-8*i)%256):=by simp[ordL]
theorem X3y{w:World}{g:Nat}{t:TypeId}{l:List UInt8}(h:Row1 w g t (l.flatMap encU))(n c:Nat)(hn:n=l.length):(convert 106 9 (.slice (some ⟨g,0,none⟩) n c)).run Tryz.prog w= .ok (.string (bts l)) w:=by subst hn;exact run_convert_bytes_back (P:=Tryz.prog) w 106 9 5 ⟨g,0,none⟩ c l Tryz.underlying106 Tryz.underlying5 Tryz.underlying9 (fun j hj=>by rw[Addr.add_lit,Nat.zero_add,h.cell j];exact V3s l j hj)
theorem V5y{w:World}{g:Nat}{t:TypeId}{l:List UInt8}(h:Row1 w g t (l.flatMap encU))(i:Nat)(hi:i<l.length)(b:UInt8):Row1 (w.setCell ⟨g,i,none⟩ (.int .u8 (b.toNat:Int))) g t ((l.set i b).flatMap encU):=by have e:=Y0j encU 1 Z4n l i l[i] 0 (.int .u8 (b.toNat:Int)) b hi rfl (by omega) rfl;rw[Nat.mul_one,Nat.add_zero]at e;rw[<-e];exact h.set i _
theorem V0r{w:World}{g:Nat}{t:TypeId}{l:List UInt8}(h:Row1 w g t (l.flatMap encU))(i:Nat)(hi:i<l.length):w.cell? ⟨g,i,none⟩=some (.int .u8 (l[i].toNat:Int)):=by rw[h.cell i];exact V3s l i hi
theorem X2k(n:Int)(w:World)(h1: -9223372036854775808<=n)(h2:n<=9223372036854775807):cQ 105 #[.int .i64 n] w fun e w'=>e= .returned (.string (bts (ordL n)))/\Ext w w':=by
 have hU:ordU n<18446744073709551616:=by unfold ordU;omega
 have hx:bits .xor .u64 (IntKind.u64.wrap n) 9223372036854775808=(ordU n:Int):=by
  have e1:IntKind.u64.wrap n=((n%18446744073709551616).toNat:Int):=by rw[IntKind.wrap_u64];omega
  have h3:=bits_xor_u64_nat (n%18446744073709551616).toNat 9223372036854775808 (by omega) (by decide);rw[U2c _ (by omega)]at h3;rw[e1];have e2:((n%18446744073709551616).toNat+9223372036854775808)%18446744073709551616=ordU n:=by unfold ordU;omega
  rw[e2]at h3;exact h3
 obtain⟨u,hu⟩:∃u,ordU n=u:=⟨_,rfl⟩;have HL:Hid (∀i (h:i<8),(ordL n)[i]'(by rw[Z1k];exact h)=UInt8.ofNat (u/2 ^ (56-8*i)%256)):=fun i h=>by rw[<-hu];exact V1o n i h
 rw[hu]at hx hU;have HX:=hD hx;obtain⟨l,hl⟩:∃l,ordL n=l:=⟨_,rfl⟩;have hl8:l.length=8:=by rw[<-hl];exact Z1k n
 have HL:Hid (∀i (h:i<8),l[i]'(by rw[hl8];exact h)=UInt8.ofNat (u/2 ^ (56-8*i)%256)):=by subst hl;exact HL.out
 rw[hl];clear hl hu HX;go_enter Tryz.func105,Tryz.ntmps105;go_wp2_with fail
 go_loopw [9] (fun i wr=>∃k:Nat,k<=8/\i= .int .i64 k/\Row1 wr w.heap.size 248 ((l.take k++List.replicate (8-k) 0).flatMap encU)/\Ext w wr) (fun i _=>8-(intOf i).toNat)
 case atStart=>exact⟨0,by omega,rfl,Row1.made w _ _,by exact Xt⟩
 case round=>
  obtain⟨k,hk,rfl,hr,hxr⟩:=hrel;have HR:=hD hr;have HXR:=hD hxr;have hzr:=hxr.size;have hgl:=hr.lt;clear hr hxr;by_cases hq:k<8
  ·have hlen:(l.take k++List.replicate (8-k) (0:UInt8)).length=8:=by simp;omega
   have hck:=V0r HR.out k (by rw[hlen];exact hq);generalize ((l.take k++List.replicate (8-k) (0:UInt8))[k]'(by rw[hlen];exact hq)).toNat=v0 at hck;have hfk:wr.frozen? ⟨w.heap.size,k,none⟩=false:=HR.out.soft k;obtain⟨b,hb⟩:∃b:UInt8,b=UInt8.ofNat (u/2 ^ (56-8*k)%256):=⟨_,rfl⟩;have hbn:((u:Int)/2 ^ (56-8*k))%256=(b.toNat:Int):=by rw[hb,Z2a (Nat.mod_lt _ (by decide))];simp
   have HS:=hD (V5y HR.out k (by rw[hlen];exact hq) b);have HE:Hid ((l.take k++List.replicate (8-k) 0).set k b=l.take (k+1)++List.replicate (8-(k+1)) 0):=by
    unfold Hid;have e1:List.replicate (8-k) (0:UInt8)=0::List.replicate (8-(k+1)) 0:=by rw[<-List.replicate_succ];congr 1;omega
    have e2:k-(l.take k).length=0:=by simp;omega
    rw[List.set_append_right _ _ (by simp;omega),e2,e1,List.set_cons_zero,List.take_add_one,aB (by omega),HL.out k hq,<-hb];simp
   rw[HE.out]at HS;have q4:(8:Int)*k<=56:=by omega
   have q5:(0:Int)<=56-8*k:=by omega
   have q6:(56:Int)-8*k<64:=by omega
   clear hb;go_wp2_with fail
   go_roundw
   case rel=>exact⟨k+1,by omega,by go_num,HS.out,by exact Xx (HXR.out)⟩
   case measure=>simp[intOf];omega
  ·obtain rfl:k=8:=by omega
   have e8:(l.take 8++List.replicate (8-8) (0:UInt8))=l:=by rw[<-hl8,List.take_length];simp
   rw[e8]at HR;have hc:=X3y HR.out 8 8 hl8.symm;go_wp2_with fail;go_ret;exact⟨rfl,HXR.out⟩
def beN(l:List UInt8):Nat:=l.foldl (fun u c=>u*256+c.toNat) 0
theorem X6a(l:List UInt8)(c:UInt8):beN (l++ [c])=beN l*256+c.toNat:=by unfold beN;rw[List.foldl_append];rfl
theorem V9x:∀(l:List UInt8) (u:Nat),l.foldl (fun u c=>u*256+c.toNat) u<(u+1)*256 ^ l.length
 | [],u=>by simp
 | c::r,u=>by have h:=V9x r (u*256+c.toNat);have hc:=c.toNat_lt;rw[List.foldl_cons,List.length_cons,Nat.pow_succ];refine aE h ?_;rw[Nat.mul_comm (256 ^ r.length),<-Nat.mul_assoc];exact Nat.mul_le_mul_right _ (by omega)
theorem V4v(l:List UInt8):beN l<256 ^ l.length:=by have:=V9x l 0;simpa [beN]using this
def Y5z(l:List UInt8):Int:=(beN l:Int)-9223372036854775808
theorem X1l(u k:Nat):∀j,j<=k->beN ((List.range j).map fun i=>UInt8.ofNat (u/2 ^ (8*k-8-8*i)%256))=u/2 ^ (8*k-8*j)%2 ^ (8*j)
 | 0,_=>by simp[beN,Nat.mod_one]
 | j+1,h=>by
   rw[List.range_succ,List.map_append,List.map_singleton,X6a,X1l u k j (by omega),Z2a (Nat.mod_lt _ (by decide))];have e1:8*k-8*j=(8*k-8*(j+1))+8:=by omega
   have e2:8*k-8-8*j=8*k-8*(j+1):=by omega
   have e3:2 ^ (8*(j+1))=256*2 ^ (8*j):=by rw[Nat.mul_add,Nat.pow_add,Nat.mul_comm]
   have e4:u/2 ^ ((8*k-8*(j+1))+8)=u/2 ^ (8*k-8*(j+1))/256:=by rw[Nat.pow_add,Nat.div_div_eq_div_mul]
   rw[e1,e2,e3,e4,Nat.mod_mul];omega
theorem Y9j(n:Int)(h1: -9223372036854775808<=n)(h2:n<=9223372036854775807):Y5z (ordL n)=n:=by unfold Y5z ordL;have h:=X1l (ordU n) 8 8 (by omega);rw[h];unfold ordU;simp;omega
theorem Y7k(s:ByteArray)(h8:s.size=8)(w:World):cQ 110 #[.string s] w fun e w'=>e= .returned (.tuple #[.int .i64 (Y5z s.data.toList),.int .i64 0])/\w=w':=by
 have hl:s.data.toList.length=8:=by rw[Array.length_toList];exact h8
 obtain⟨l,hl0⟩:∃l,s.data.toList=l:=⟨_,rfl⟩;have HC:Hid (∀k (h:k<8),s[k]'(by omega)=l[k]'(by rw[<-hl0];omega)):=fun k h=>by subst hl0;simp[ByteArray.getElem_eq_getElem_data]
 rw[hl0]at hl ⊢;have q8:(s.size:Int)=8:=by omega
 have HT:Hid (∀k,k<=8->beN (l.take k)<256 ^ k):=fun k hk=>by have:=V4v (l.take k);rwa [aD,hl,Nat.min_eq_left hk]at this
 go_enter Tryz.func110,Tryz.ntmps110;go_wp2_with fail
 go_loopw [4,11] (fun n v wr=>∃(k:Nat),n= .int .u64 (beN (l.take k))/\v= .int .i64 k/\k<=8/\w=wr) (fun _ v _=>8-(intOf v).toNat)
 case atStart=>exact⟨0,rfl,rfl,by omega,rfl⟩
 case round=>
  obtain⟨k,rfl,rfl,hk,rfl⟩:=hrel;by_cases hq:k<8
  ·have hq3:(k:Int)<8:=by omega
   have hks:k<s.size:=by omega
   have hkl:k<l.length:=by omega
   have hor:bits .or .u64 (IntKind.u64.wrap ((beN (l.take k):Int)*256)) (IntKind.u64.wrap (s[k].toNat:Int))=(beN (l.take (k+1)):Int):=by
    have hb:=s[k].toNat_lt;have h1:=HT.out k (by omega);have h2:256 ^ k<=256 ^ 7:=Nat.pow_le_pow_right (by decide) (by omega);have e1:IntKind.u64.wrap ((beN (l.take k):Int)*256)=((2 ^ 8*beN (l.take k):Nat):Int):=by rw[IntKind.wrap_u64];omega
    have e2:IntKind.u64.wrap (s[k].toNat:Int)=(s[k].toNat:Int):=by rw[IntKind.wrap_u64];omega
    rw[e1,e2,bits_or_u64_nat _ _ (by omega) (by omega),<-Nat.two_pow_add_eq_or_of_lt hb,List.take_add_one,aB hkl,Option.toList_some,X6a,HC.out k hq]
    congr 1
    omega
   go_wp2_with fail
   go_roundw
   case rel=>exact⟨k+1,rfl,by go_num,by omega,trivial⟩
   case measure=>simp[intOf];omega
  ·obtain rfl:k=8:=by omega
   have HB:=HT.out 8 (by omega);rw[show l.take 8=l by rw[<-hl,List.take_length]]at *;have hx:bits .xor .u64 (beN l:Int) 9223372036854775808=(((beN l+9223372036854775808)%18446744073709551616:Nat):Int):=by have:=bits_xor_u64_nat (beN l) 9223372036854775808 (by omega) (by decide);rwa [U2c _ (by omega)]at this
   have hv:wrap64 (((beN l+9223372036854775808)%18446744073709551616:Nat):Int)=Y5z l:=by unfold wrap64 Y5z;omega
   generalize (beN l+9223372036854775808)%18446744073709551616=v at hx hv;go_wp2_with fail
   go_ret2
   exact⟨by rw[<-hv];rfl,rfl⟩
theorem pow7(k:Nat)(h:k<=8):128*2 ^ (7*k)<=9223372036854775808:=by
 have:k=0\/k=1\/k=2\/k=3\/k=4\/k=5\/k=6\/k=7\/k=8:=by omega
 rcases this with h | h | h | h | h | h | h | h | h<;>subst h<;>decide
theorem U2r(k:Nat):(128:Nat) ^ k=2 ^ (7*k):=by rw[Nat.pow_mul]
theorem X1p(c:UInt8)(r:List UInt8)(i acc:Nat)(h:i<10):Z5f (c::r) i acc=if i=9/\1<c.toNat then(0,0)else if c.toNat<128 then(if c.toNat=0/\0<i then(0,0)else(acc+c.toNat%128*2 ^ (7*i),i+1))else Z5f r (i+1) (acc+c.toNat%128*2 ^ (7*i)):=by rw[Z5f,if_neg (by omega),U2r]
theorem X6m(r:List UInt8)(acc:Nat):Z5f r 10 acc=(0,0):=by
 cases r with
 | nil=>rfl
 | cons c r=>rw[Z5f,if_pos (by omega)]
theorem X9o(s:ByteArray)(hs:s.size<=1000000000)(w:World):cQ 100 #[.string s] w fun e w'=>e= .returned (.tuple #[.int .u64 (Y9i s.data.toList).1,.int .i64 (Y9i s.data.toList).2])/\w=w':=by
 obtain⟨l,hl0⟩:∃l,s.data.toList=l:=⟨_,rfl⟩;have hl:l.length=s.size:=by rw[<-hl0,Array.length_toList];rfl
 have HC:Hid (∀k (h:k<s.size),l[k]? =some s[k]):=fun k h=>by subst hl0;rw[aB (by omega)];simp[ByteArray.getElem_eq_getElem_data]
 have HL:=hD hl;rw[hl0];clear hl0 hl;obtain⟨R,hR⟩:∃R,Y9i l=R:=⟨_,rfl⟩;have HR:=hD hR;rw[hR];clear hR;go_enter Tryz.func100,Tryz.ntmps100;go_upto_region 2 with fail
 go_cut [7,8,9,10] (fun _ _ v i wx=>v= .int .i64 (min s.size 10:Nat)/\i= .int .i64 0/\w=wx)
 case first=>
  by_cases h:(10:Int)<s.size
  ·go_wp2_with fail
   go_meet
   exact⟨by congr 1;omega,rfl,rfl⟩
  ·go_wp2_with fail
   go_meet
   exact⟨by congr 1;omega,rfl,rfl⟩
 case rest=>
 obtain⟨rfl,rfl,rfl⟩:=hcut;obtain⟨M,hM⟩:∃M,min s.size 10=M:=⟨_,rfl⟩;have hM1:M<=s.size:=by omega
 have hM2:M<=10:=by omega
 have HM:Hid (M=s.size\/M=10):=by unfold Hid;omega
 rw[hM];clear hM;go_wp2_with fail
 go_loopw [4,10] (fun n v wr=>∃(m:Nat) (k:Nat),n= .int .u64 m/\v= .int .i64 k/\k<=M/\Hid (m<2 ^ (7*k))/\Hid (R=Z5f (l.drop k) k m)/\w=wr) (fun _ v _=>M-(intOf v).toNat)
 case atStart=>exact⟨0,0,rfl,rfl,by omega,by simp[Hid],HR.out.symm,rfl⟩
 case round=>
  obtain⟨m,k,rfl,rfl,hk,hm,hu,rfl⟩:=hrel;by_cases hq:k<M
  ·have hks:k<s.size:=by omega
   have hq3:(k:Int)<s.size:=by omega
   have hq4:(7:Int)*k<64:=by omega
   obtain⟨c,hc⟩:∃c,s[k]=c:=⟨_,rfl⟩;have HD:Hid (l.drop k=c::l.drop (k+1)):=by unfold Hid;obtain⟨h1,h2⟩:=aC.1 (HC.out k hks);rw[List.drop_eq_getElem_cons h1,h2,hc]
   have HU:Hid (R=if k=9/\1<c.toNat then(0,0)else if c.toNat<128 then(if c.toNat=0/\0<k then(0,0)else(m+c.toNat%128*2 ^ (7*k),k+1))else Z5f (l.drop (k+1)) (k+1) (m+c.toNat%128*2 ^ (7*k))):=by unfold Hid;rw[hu.out,HD.out,X1p _ _ _ _ (by omega)]
   have hcl:=c.toNat_lt;have ha:=U2l c.toNat hcl;by_cases h9:k=9/\1<c.toNat
   ·obtain⟨rfl,h1⟩:=h9;have q1:decide (1<(c.toNat:Int))=true:=aN;have HU2:Hid (R=(0,0)):=by unfold Hid;rw[HU.out,if_pos ⟨rfl,h1⟩]
    go_wp2_with fail
    go_ret2
    rw[HU2.out];exact⟨rfl,rfl⟩
   ·have HU3:Hid (R=if c.toNat<128 then(if c.toNat=0/\0<k then(0,0)else(m+c.toNat%128*2 ^ (7*k),k+1))else Z5f (l.drop (k+1)) (k+1) (m+c.toNat%128*2 ^ (7*k))):=by unfold Hid;rw[HU.out,if_neg h9]
    have hx:c.toNat%128*2 ^ (7*k)<18446744073709551616:=by
     by_cases hk9:k=9
     ·subst hk9;have:c.toNat<=1:=by omega
      have h2:c.toNat%128*2 ^ (7*9)<=1*2 ^ (7*9):=Nat.mul_le_mul_right _ (by omega);omega
     ·have h1:=pow7 k (by omega);have h2:c.toNat%128*2 ^ (7*k)<=128*2 ^ (7*k):=Nat.mul_le_mul_right _ (by omega);omega
    have hor:bits .or .u64 (m:Int) (IntKind.u64.wrap (IntKind.u64.wrap ((c.toNat%128:Nat):Int)*2 ^ (7*k)))=((m+c.toNat%128*2 ^ (7*k):Nat):Int):=by
     have e1:IntKind.u64.wrap ((c.toNat%128:Nat):Int)=((c.toNat%128:Nat):Int):=by rw[IntKind.wrap_u64];omega
     have e2:((c.toNat%128:Nat):Int)*2 ^ (7*k)=((c.toNat%128*2 ^ (7*k):Nat):Int):=by simp
     have e3:IntKind.u64.wrap ((c.toNat%128*2 ^ (7*k):Nat):Int)=((c.toNat%128*2 ^ (7*k):Nat):Int):=by rw[IntKind.wrap_u64];omega
     have h64:2 ^ (7*k)<=18446744073709551616:=Nat.le_trans (Nat.pow_le_pow_right (by decide) (show 7*k<=63 by omega)) (by decide);rw[e1,e2,e3,or64 _ _ _ hm.out hx h64]
    obtain⟨m2,hm2⟩:∃m2,m+c.toNat%128*2 ^ (7*k)=m2:=⟨_,rfl⟩;rw[hm2]at hor HU3;have hor2:bits .or .u64 (m:Int) (IntKind.u64.wrap ((c.toNat:Int)%128*2 ^ (7*k)))=(m2:Int):=by
     have e1:IntKind.u64.wrap ((c.toNat%128:Nat):Int)=(c.toNat:Int)%128:=by rw[IntKind.wrap_u64];omega
     rw[e1]at hor;exact hor
    have HM2:Hid (m2<2 ^ (7*(k+1))):=by
     unfold Hid;have h1:=hm.out;have h2:c.toNat%128*2 ^ (7*k)<=127*2 ^ (7*k):=Nat.mul_le_mul_right _ (by omega);have e:2 ^ (7*(k+1))=128*2 ^ (7*k):=by rw[Nat.mul_add,Nat.pow_add,Nat.mul_comm]
     omega
    clear hm2 hx HU hm hu HD;have q9:((k:Int)==9)=true->decide (1<(c.toNat:Int))=false:=fun h=>by
     have:k=9:=by have h:=eq_of_beq h;omega
     exact decide_eq_false (by omega)
    by_cases h128:c.toNat<128
    ·have q1:decide ((c.toNat:Int)<128)=true:=aN;rw[if_pos h128]at HU3;obtain⟨b9,hb9⟩:∃b9,((k:Int)==9)=b9:=⟨_,rfl⟩;obtain⟨b0,hb0⟩:∃b0,((c.toNat:Int)==0)=b0:=⟨_,rfl⟩;have q5:b9=true->decide (1<(c.toNat:Int))=false:=fun h=>q9 (hb9.trans h);obtain⟨bk,hbk⟩:∃bk,decide (0<(k:Int))=bk:=⟨_,rfl⟩;have HU4:Hid (R=if b0=true/\bk=true then(0,0)else(m2,k+1)):=by
      unfold Hid;rw[HU3.out,<-hb0,<-hbk];have e:(((c.toNat:Int)==0)=true/\decide (0<(k:Int))=true)=(c.toNat=0/\0<k):=by rw[beq_iff_eq,decide_eq_true_iff];exact propext ⟨fun h=>⟨by omega,by omega⟩,fun h=>⟨by omega,by omega⟩⟩
      simp only[e]
     clear HU3;cases b9<;>cases b0<;>cases bk
     all_goals (try have q5:=q5 rfl)
     all_goals go_wp2_with fail
     all_goals go_ret2
     all_goals (rw [HU4.out];refine⟨?_,rfl⟩;first | (simp;done) | (exfalso;first | (have:=of_decide_eq_false hbk;omega) | (have:=of_decide_eq_true hbk;omega)))
    ·have q1:decide ((c.toNat:Int)<128)=false:=aM;have h9':((k:Int)==9)=false:=by simp;omega
     rw[if_neg h128]at HU3;go_wp2_with fail
     go_roundw
     case rel=>exact⟨m2,k+1,rfl,by go_num,by omega,HM2,HU3,trivial⟩
     case measure=>simp[intOf];omega
  ·obtain rfl:k=M:=by omega
   have HE:Hid (R=(0,0)):=by
    unfold Hid;rw[hu.out];rcases HM.out with h | h
    ·rw[List.drop_eq_nil_of_le (by rw[HL.out];omega)];rfl
    ·rw[h];exact X6m _ _
   go_wp2_with fail
   go_ret2
   rw[HE.out];exact⟨rfl,rfl⟩
def hasL(l:List UInt8)(i:Nat):Bool:=(l[i/8]?.getD 0).toNat.testBit (i%8)
def bitU(x:UInt8)(k:Nat)(b:Bool):UInt8:=UInt8.ofNat (if b then x.toNat ||| 2 ^ k else x.toNat &&& (255-2 ^ k))
def Z6x(l:List UInt8)(i:Nat)(b:Bool):List UInt8:=l.set (i/8) (bitU (l[i/8]?.getD 0) (i%8) b)
theorem Z5p(l:List UInt8)(i:Nat)(b:Bool):(Z6x l i b).length=l.length:=by simp[Z6x]
theorem V1b(k:Nat)(h:k<8):2 ^ k<=128:=by have:2 ^ k<=2 ^ 7:=Nat.pow_le_pow_right (by decide) (by omega);omega
theorem U0l(k j:Nat)(hk:k<8)(hj:j<8):(255-2 ^ k).testBit j=decide (j≠k):=by
 have:k=0\/k=1\/k=2\/k=3\/k=4\/k=5\/k=6\/k=7:=by omega
 have h2:j=0\/j=1\/j=2\/j=3\/j=4\/j=5\/j=6\/j=7:=by omega
 rcases this with h | h | h | h | h | h | h | h<;>subst h<;>rcases h2 with h | h | h | h | h | h | h | h<;>subst h<;>decide
theorem V9j(x:UInt8)(k j:Nat)(b:Bool)(hk:k<8)(hj:j<8):(bitU x k b).toNat.testBit j=if j=k then b else x.toNat.testBit j:=by
 have hx:=x.toNat_lt;have hp:=V1b k hk;unfold bitU;cases b
 ·rw[if_neg (by decide),Z2a (Nat.lt_of_le_of_lt Nat.and_le_left (by omega)),Nat.testBit_and,U0l k j hk hj];by_cases h:j=k<;>simp[h]
 ·have h1:x.toNat ||| 2 ^ k<2 ^ 8:=Nat.or_lt_two_pow (by omega) (by omega)
  rw[if_pos rfl,Z2a (by omega),Nat.testBit_or,Nat.testBit_two_pow];by_cases h:j=k
  ·subst h;simp
  ·have h':¬k=j:=fun e=>h e.symm;simp[h,h']
theorem Y8p(l:List UInt8)(i j:Nat)(b:Bool)(hi:i/8<l.length):hasL (Z6x l i b) j=if j=i then b else hasL l j:=by
 unfold hasL Z6x;by_cases h:j/8=i/8
 ·rw[h,List.getElem?_set_self hi,Option.getD_some,V9j _ _ _ _ (Nat.mod_lt _ (by decide)) (Nat.mod_lt _ (by decide))];by_cases h2:j=i
  ·subst h2;simp
  ·rw[if_neg h2,if_neg (by omega)]
 ·rw[List.getElem?_set_ne (by omega),if_neg (by intro e;subst e;exact h rfl)]
theorem V3e(n j:Nat):hasL (List.replicate n 0) j=false:=by unfold hasL;rw[List.getElem?_replicate];split<;>simp
theorem X1v(x k:Nat):(((x/2 ^ k%2:Nat):Int)==1)=x.testBit k:=by rw[Nat.testBit_eq_decide_div_mod_eq];rcases Nat.mod_two_eq_zero_or_one (x/2 ^ k)with h | h<;>rw[h]<;>rfl
theorem X2u(s:ByteArray)(i:Nat)(w:World)(hi:i<1000000000)(hs:i/8<s.size):cQ 98 #[.string s,.int .i64 i] w fun e w'=>e= .returned (.bool (hasL s.data.toList i))/\w=w':=by
 have hq2:(i:Int)/8<s.size:=by omega
 have hx:=s[i/8].toNat_lt;have he:s.data.toList[i/8]?.getD 0=s[i/8]:=by rw[aB (show i/8<s.data.toList.length by rw[Array.length_toList];exact hs)];simp[ByteArray.getElem_eq_getElem_data]
 have HE:Hid ((bits .and .u8 ((s[i/8].toNat:Int)/2 ^ (i%8)) 1==1)=hasL s.data.toList i):=by
  unfold Hid hasL;rw[he];have e1:(s[i/8].toNat:Int)/2 ^ (i%8)=((s[i/8].toNat/2 ^ (i%8):Nat):Int):=by simp
  rw[e1,and1 _ (Nat.lt_of_le_of_lt (Nat.div_le_self _ _) hx)];exact X1v _ _
 clear he hx;go_enter Tryz.func98,Tryz.ntmps98;go_wp2_with fail;go_ret;exact⟨by rw[<-HE.out];rfl,rfl⟩
theorem Y2o(s:ByteArray)(i:Nat)(b:Bool)(w:World)(hi:i<1000000000)(hs:i/8<s.size)(hbig:s.size<=1000000000):cQ 123 #[.string s,.int .i64 i,.bool b] w fun e w'=>e= .returned (.tuple #[.string (bts (Z6x s.data.toList i b)),.bool true])/\Ext w w':=by
 have hq2:(i:Int)/8<s.size:=by omega
 have hl:s.data.toList.length=s.size:=by rw[Array.length_toList];rfl
 obtain⟨l,hl0⟩:∃l,s.data.toList=l:=⟨_,rfl⟩;obtain⟨c,w1,hc,hB,hx,hz⟩:=X5w w s;rw[hl0]at hl hB;rw[hl0];obtain⟨x,hxx⟩:∃x,l[i/8]? =some x:=⟨_,aB (by omega)⟩;obtain⟨hk,hx2⟩:=aC.1 hxx;have hcl:=hB.cell (i/8) hk;have hfl:=hB.soft (i/8) hk;rw[hx2]at hcl;have HB:=hD (hB.set (i/8) hk (bitU x (i%8) b));have HW:Hid (Z6x l i b=l.set (i/8) (bitU x (i%8) b)):=by unfold Hid Z6x;rw[hxx];rfl
 rw[HW.out];have hxn:=x.toNat_lt;have hp:=V1b (i%8) (Nat.mod_lt _ (by decide));have HX:=hD hx;obtain⟨y,hy⟩:∃y,bitU x (i%8) b=y:=⟨_,rfl⟩;have HY:Hid (∀z:UInt8,z=bitU x (i%8) b->z=y):=fun z h=>by rw[h,hy]
 have e0:(2:Int) ^ (i%8)%256=((2 ^ (i%8):Nat):Int):=by
  have h3:((2 ^ (i%8):Nat):Int)=2 ^ (i%8):=by simp
  rw[<-h3];exact Int.emod_eq_of_lt (Int.natCast_nonneg _) (Int.ofNat_lt.2 (show 2 ^ (i%8)<256 by omega))
 have HL2:Hid (l.length=s.size):=hl;rw[hy]at HB;rw[hy];clear hB hx hl0 hxx hx2;cases b
 ·have hv:bits .andNot .u8 (x.toNat:Int) (2 ^ (i%8)%256)=(y.toNat:Int):=by rw[e0];have h1:=u8_andNot_nat x.toNat (2 ^ (i%8)) hxn (by omega);rw[h1,<-hy];unfold bitU;rw[if_neg (by decide),Z2a (Nat.lt_of_le_of_lt Nat.and_le_left (by omega))]
  clear hy e0;go_enter Tryz.func123,Tryz.ntmps123;go_wp2_with fail;have hc2:=HB.out.text c s.size (by rw[List.length_set];exact HL2.out.symm);rw[hc2];simp only[Result.andThen];rw[Oper.upon_value];go_wp2_with fail
  go_ret2
  exact⟨rfl,by exact Xx (HX.out)⟩
 ·have hv:bits .or .u8 (x.toNat:Int) (2 ^ (i%8)%256)=(y.toNat:Int):=by
   rw[e0];have h1:=u8_or_nat x.toNat (2 ^ (i%8)) hxn (by omega);have h2:x.toNat ||| 2 ^ (i%8)<2 ^ 8:=Nat.or_lt_two_pow (by omega) (by omega)
   rw[h1,<-hy];unfold bitU;rw[if_pos rfl,Z2a (by omega)]
  clear hy e0;go_enter Tryz.func123,Tryz.ntmps123;go_wp2_with fail;have hc2:=HB.out.text c s.size (by rw[List.length_set];exact HL2.out.symm);rw[hc2];simp only[Result.andThen];rw[Oper.upon_value];go_wp2_with fail
  go_ret2
  exact⟨rfl,by exact Xx (HX.out)⟩
def lowL(l:List UInt8)(a b:Nat):Option Nat:=(List.range b).find? fun j=>decide (a<=j)&& !hasL l j
theorem V2c{l:List UInt8}{a b i:Nat}(h1:a<=i)(h2:i<b)(h3:hasL l i=false)(h4:∀j,a<=j->j<i->hasL l j=true):lowL l a b=some i:=by
 unfold lowL;rw[List.find?_range_eq_some];refine⟨by simp[h1,h3],by simpa using h2,fun j hj=> ?_⟩;by_cases h:a<=j
 ·simp[h4 j h hj]
 ·simp[h]
theorem X0s{l:List UInt8}{a b:Nat}(h4:∀j,a<=j->j<b->hasL l j=true):lowL l a b=none:=by
 unfold lowL;rw[List.find?_eq_none];intro j hj;simp only[List.mem_range]at hj;by_cases h:a<=j
 ·simp[h4 j h hj]
 ·simp[h]
theorem V8h:∀k,k<8->(255:Nat).testBit k=true:=by decide
theorem X7r(s:ByteArray)(a b:Nat)(w:World)(hs:s.size<=100000000)(hb:b<=8*s.size)(ha:0<a):cQ 149 #[.string s,.int .i64 a,.int .i64 b] w fun e w'=>e= .returned (.tuple #[.int .i64 ((lowL s.data.toList a b).getD 0),.bool (lowL s.data.toList a b).isSome])/\w=w':=by
 obtain⟨l,hl0⟩:∃l,s.data.toList=l:=⟨_,rfl⟩;have HG:Hid (∀i (h:i/8<s.size),l[i/8]?.getD 0=s[i/8]):=fun i h=>by subst hl0;rw[aB (show i/8<s.data.toList.length by rw[Array.length_toList];exact h)];simp[ByteArray.getElem_eq_getElem_data]
 have HH:Hid (∀(i:Nat) (W:World),i<1000000000->i/8<s.size->cQ 98 #[.string s,.int .i64 i] W fun e w'=>e= .returned (.bool (hasL l i))/\W=w'):=fun i W h1 h2=>by have:=X2u s i W h1 h2;rwa [hl0]at this
 rw[hl0];obtain⟨R,hR⟩:∃R,lowL l a b=R:=⟨_,rfl⟩;have HR:=hD hR;rw[hR];clear hR hl0;have q0:¬(a:Int)<0:=by omega
 have q00:(0:Int)<a:=by omega
 by_cases hab:a<b
 case neg=>
  have q1:decide ((a:Int)<b)=false:=aM;have HN:Hid (R=none):=by unfold Hid;rw[<-HR.out];exact X0s (fun j h1 h2=>by omega)
  go_enter Tryz.func149,Tryz.ntmps149;go_wp2_with fail
  go_loopw [8] (fun i wr=>i= .int .i64 a/\w=wr) (fun _ _=>0)
  case atStart=>exact⟨rfl,rfl⟩
  case round=>
   obtain⟨rfl,rfl⟩:=hrel;go_wp2_with fail
   go_ret2
   rw[HN.out];exact⟨rfl,rfl⟩
 go_enter Tryz.func149,Tryz.ntmps149;go_wp2_with fail
 go_loopw [8] (fun i wr=>∃k:Nat,i= .int .i64 k/\a<=k/\k<=b+7/\Hid (∀j,a<=j->j<k->hasL l j=true)/\w=wr) (fun i _=>b-(intOf i).toNat)
 case atStart=>exact⟨a,rfl,aF _,by omega,fun j h1 h2=>by omega,rfl⟩
 case round=>
  obtain⟨k,rfl,hk1,hk2,hk3,rfl⟩:=hrel;by_cases hq:k<b
  ·have q1:decide ((k:Int)<b)=true:=aN;have q2:decide ((k:Int)/8<s.size)=true:=aN;have q2':(k:Int)/8<s.size:=by omega
   have h8:k/8<s.size:=by omega
   obtain⟨x,hx⟩:∃x,s[k/8]=x:=⟨_,rfl⟩;have HX:Hid (l[k/8]?.getD 0=x):=(HG.out k h8).trans hx;have cH:=HH.out k w (by omega) h8;by_cases hf:k%8=0/\x.toNat=255
   ·obtain⟨hf1,hf2⟩:=hf;have q3:((k:Int)%8==0)=true:=by simp;omega
    have q4:((x.toNat:Int)==255)=true:=by simp;omega
    have HK:Hid (∀j,a<=j->j<k+7+1->hasL l j=true):=fun j h1 h2=>by
     by_cases hj:j<k
     ·exact hk3.out j h1 hj
     ·unfold hasL;rw[show j/8=k/8 by omega,HX.out,hf2];exact V8h _ (Nat.mod_lt _ (by decide))
    go_wp2_with fail
    go_roundw
    case rel=>exact⟨k+7+1,by go_num,by omega,by omega,HK,trivial⟩
    case measure=>simp[intOf];omega
   ·obtain⟨b3,hb3⟩:∃b3,((k:Int)%8==0)=b3:=⟨_,rfl⟩;have q4:b3=true->((x.toNat:Int)==255)=false:=fun h=>by subst h;have:=eq_of_beq hb3;simp;omega
    obtain⟨bh,hbh⟩:∃bh,hasL l k=bh:=⟨_,rfl⟩;rw[hbh]at cH;cases bh
    ·have HS:Hid (R=some k):=by unfold Hid;rw[<-HR.out];exact V2c hk1 hq hbh hk3.out
     cases b3
     ·go_wp2_with (go_at_call 98;refine cH.mono ?_;clear cH;rintro e w1 ⟨rfl,rfl⟩)
      go_ret2
      rw[HS.out];exact⟨rfl,rfl⟩
     ·have q4:=q4 rfl;go_wp2_with (go_at_call 98;refine cH.mono ?_;clear cH;rintro e w1 ⟨rfl,rfl⟩)
      go_ret2
      rw[HS.out];exact⟨rfl,rfl⟩
    ·have HK:Hid (∀j,a<=j->j<k+1->hasL l j=true):=fun j h1 h2=>by
      by_cases hj:j<k
      ·exact hk3.out j h1 hj
      ·obtain rfl:j=k:=by omega
       exact hbh
     cases b3
     ·go_wp2_with (go_at_call 98;refine cH.mono ?_;clear cH;rintro e w1 ⟨rfl,rfl⟩)
      go_roundw
      case rel=>exact⟨k+1,by go_num,by omega,by omega,HK,trivial⟩
      case measure=>simp[intOf];omega
     ·have q4:=q4 rfl;go_wp2_with (go_at_call 98;refine cH.mono ?_;clear cH;rintro e w1 ⟨rfl,rfl⟩)
      go_roundw
      case rel=>exact⟨k+1,by go_num,by omega,by omega,HK,trivial⟩
      case measure=>simp[intOf];omega
  ·have q1:decide ((k:Int)<b)=false:=aM;have HN:Hid (R=none):=by unfold Hid;rw[<-HR.out];exact X0s (fun j h1 h2=>hk3.out j h1 (by omega))
   go_wp2_with fail
   go_ret2
   rw[HN.out];exact⟨rfl,rfl⟩
theorem V4d(w:World):cQ 122 #[.int .i64 2048] w fun e w'=>e= .returned (.string zeroB)/\Ext w w':=by go_enter Tryz.func122,Tryz.ntmps122;go_wp2_with (at_make;refine Y2d _ rfl _ _ rfl 256 rfl rfl rfl rfl (by omega) ?_;intro w1 h1 hb1);have hc:=h1.text;rw[Z8q]at hc;go_wp2_with fail;(try (rw [hc];simp only[Result.andThen];rw[Oper.upon_value]));go_wp2_with fail;go_ret;exact⟨rfl,hb1⟩
def popN(n:Nat):Nat:=(List.range 8).countP fun i=>n.testBit i
theorem U0s(n:Nat):popN n<=8:=by have:=List.countP_le_length (p:=fun i=>n.testBit i) (l:=List.range 8);simpa [popN]using this
theorem V1t(c:UInt8)(w:World):cQ 155 #[.int .u8 c.toNat] w fun e w'=>e= .returned (.int .i64 (popN c.toNat))/\w=w':=by
 have hc:(c.toNat:Int)<256:=by have:=c.toNat_lt;omega
 have hn:c.toNat<256:=c.toNat_lt;generalize c.toNat=n at *;go_enter Tryz.func155,Tryz.ntmps155;go_wp2_with fail;go_ret;refine⟨Y3r ?_,rfl⟩;unfold wrap64;rw[<-getElem!_pos];obtain⟨m,rfl⟩:∃m:Fin 256,n=m.val:=⟨⟨n,hn⟩,rfl⟩;clear hn hc
 revert m
 decide +kernel
def Z5l(l:List UInt8):Nat:=(l.map fun c=>popN c.toNat).sum
theorem V4p(l:List UInt8):Z5l l<=8*l.length:=by
 induction l with
 | nil=>simp[Z5l]
 | cons c r ih=>
   have:=U0s c.toNat;simp only[Z5l,List.map_cons,List.sum_cons,List.length_cons]at *;omega
theorem Y5a(l:List UInt8)(k:Nat)(x:UInt8)(h:l[k]? =some x):Z5l (l.take (k+1))=Z5l (l.take k)+popN x.toNat:=by unfold Z5l;rw[List.take_add_one,h,Option.toList_some,List.map_append,List.sum_append];simp
theorem V4o(s:ByteArray)(w:World)(hs:s.size<=100000000):cQ 97 #[.string s] w fun e w'=>e= .returned (.int .i64 (Z5l s.data.toList))/\w=w':=by
 obtain⟨l,hl0⟩:∃l,s.data.toList=l:=⟨_,rfl⟩;have hl:l.length=s.size:=by rw[<-hl0,Array.length_toList];rfl
 have HC:Hid (∀k (h:k<s.size),l[k]? =some s[k]):=fun k h=>by subst hl0;rw[aB (by omega)];simp[ByteArray.getElem_eq_getElem_data]
 have HB:Hid (∀k,Z5l (l.take k)<=8*s.size):=fun k=>by
  have h1:=V4p (l.take k);have h2:(l.take k).length<=l.length:=by simp;omega
  omega
 have HT:Hid (l.take s.size=l):=by unfold Hid;rw[<-hl,List.take_length]
 rw[hl0];clear hl0 hl;go_enter Tryz.func97,Tryz.ntmps97;go_wp2_with fail
 go_loopw [3,7] (fun n v wr=>∃(k:Nat),n= .int .i64 (Z5l (l.take k))/\v= .int .i64 k/\k<=s.size/\w=wr) (fun _ v _=>s.size-(intOf v).toNat)
 case atStart=>exact⟨0,rfl,rfl,by omega,rfl⟩
 case round=>
  obtain⟨k,rfl,rfl,hk,rfl⟩:=hrel;by_cases hq:k<s.size
  ·have hq3:(k:Int)<s.size:=by omega
   have HS:=hD (Y5a l k _ (HC.out k hq));have hb:=HB.out (k+1);obtain⟨c,hc⟩:∃c,s[k]=c:=⟨_,rfl⟩;rw[hc]at HS;obtain⟨x,hx⟩:∃x,Z5l (l.take k)=x:=⟨_,rfl⟩;obtain⟨y,hy⟩:∃y,Z5l (l.take (k+1))=y:=⟨_,rfl⟩;obtain⟨z,hz⟩:∃z,popN c.toNat=z:=⟨_,rfl⟩;have cO:=V1t c w;have HY:=hD hy;have hs2:=HS.out;rw[hx,hy,hz]at hs2;rw[hz]at cO;rw[hy]at hb;rw[hx];have hsum:(x:Int)+z=y:=by omega
   clear hs2 hx hy hz HS;go_wp2_with (go_at_call 155;refine cO.mono ?_;clear cO;rintro e w1 ⟨rfl,rfl⟩)
   go_roundw
   case rel=>exact⟨k+1,by rw[HY.out],by go_num,by omega,trivial⟩
   case measure=>simp[intOf];omega
  ·obtain rfl:k=s.size:=by omega
   go_wp2_with fail;go_ret;rw[HT.out];exact⟨rfl,rfl⟩
def Z3b(s f:ByteArray):Bool:=decide (f.size<=s.size)&&((s.extract 0 f.size).toList==f.toList)
theorem Y0w(a b:List UInt8):Z3b (bts a) (bts b)=b.isPrefixOf a:=by
 rw[Bool.eq_iff_iff];unfold Z3b;rw[ByteArray.toList_eq,ByteArray.toList_eq,Bool.and_eq_true,decide_eq_true_iff,beq_iff_eq,Z0e,Z0e,List.isPrefixOf_iff_prefix];have e:((bts a).extract 0 b.length).data.toList=a.take b.length:=by simp[bts]
 rw[e,Z1r,List.prefix_iff_eq_take];constructor
 ·rintro⟨_,h⟩;exact h.symm
 ·intro h;have h2:=congrArg List.length h;rw[aD]at h2;exact⟨by omega,h.symm⟩
theorem X9p(s f:ByteArray)(w:World):cQ 46 #[.string s,.string f] w fun e w'=>e= .returned (.bool (Z3b s f))/\w=w':=by
 by_cases h:f.size<=s.size
 ·have q1:decide ((f.size:Int)<=s.size)=true:=aN;have q2:(f.size:Int)<=s.size:=by omega
  have HU:Hid (Z3b s f=((s.extract 0 f.size).toList==f.toList)):=by unfold Hid Z3b;rw[decide_eq_true h,Bool.true_and]
  go_enter Tryz.func46,Tryz.ntmps46;go_wp2_with fail;go_ret;exact⟨by rw[HU.out];rfl,rfl⟩
 ·have q1:decide ((f.size:Int)<=s.size)=false:=aM;have HU:Hid (Z3b s f=false):=by unfold Hid Z3b;rw[decide_eq_false h,Bool.false_and]
  go_enter Tryz.func46,Tryz.ntmps46;go_wp2_with fail;go_ret;exact⟨by rw[HU.out];rfl,rfl⟩
end
end Go.Proofs.YtohaldfnmgcofaaGreat
