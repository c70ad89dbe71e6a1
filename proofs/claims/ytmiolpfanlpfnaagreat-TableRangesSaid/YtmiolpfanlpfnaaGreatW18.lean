/- strings.Builder: WriteString, WriteByte, String, Len. Conditions: a builder in memory, lengths. -/
import Derived.Shelf.Strings.Builder1
import Derived.Shelf.Small.Bits
import Derived.Shelf.Strings.BuilderF
import Derived.Shelf.Strings.BuilderK
import Derived.Shelf.Strconv.Itoa0
import Derived.Test.YtmiolpfanlpfnaaGreatW08
set_option maxRecDepth 100000
set_option maxHeartbeats 4000000
set_option linter.unusedSimpArgs false
set_option linter.unusedVariables false
namespace Go.Proofs.YtmiolpfanlpfnaaGreat
open Go.RowKit
theorem Tryz.sizeBuilder:(Tryz.prog.info? 248).map (·.size)=some 2:=by kernel_rfl
theorem Tryz.liesBuilder:liesAt Tryz.prog Tryz.prog.depth 248 (2/Tryz.prog.cellsOf 248) 0 248 1=true:=by kernel_rfl
theorem Tryz.infoU8:(Tryz.prog.info? 5).map (fun i=>(i.zero,i.size,i.bytes))=some (some (.int .u8 0),1,1):=by kernel_rfl
theorem Y5h(b:Nat)(w:World)(h0:w.cell? ⟨b,0,none⟩=some (.pointer (some ⟨b,0,none⟩))):
  Calls Tryz.prog 213 #[.pointer (some ⟨b,0,none⟩)] w fun e w'=>e= .returned (.tuple #[])/\w'=w:=by
 obtain⟨j,hj,_⟩:=Option.map_eq_some_iff.1 Tryz.sizeBuilder;go_enter Tryz.func213,Tryz.ntmps213;go_wp2;rw[Lib.run_neq_ptr_same w _ Tryz.underlying246 hj];go_wp2
 go_end0
 exact⟨rfl,rfl⟩
theorem Y4u(b:Nat)(w:World)(h0:w.cell? ⟨b,0,none⟩=some (.pointer none))(hsh:w.shape? b=some (248,2))(hfz:w.frozen? ⟨b,0,none⟩=false):
  Calls Tryz.prog 213 #[.pointer (some ⟨b,0,none⟩)] w fun e w'=>e= .returned (.tuple #[])/\w'=w.setCell ⟨b,0,none⟩ (.pointer (some ⟨b,0,none⟩)):=by
 obtain⟨j,hj,hjs⟩:=Option.map_eq_some_iff.1 Tryz.sizeBuilder;go_enter Tryz.func213,Tryz.ntmps213;go_wp2_with fail;rw[Lib.run_to_unsafe w ⟨b,0,none⟩ Tryz.underlying246 Tryz.underlying327 hj (by rw[hjs];decide) hsh (Nat.zero_lt_succ 1)];simp only[Result.andThen];rw[Oper.upon_value];go_wp2_with fail;rw[run_callFunc_extern Tryz.func259 (by kernel_rfl) (by kernel_rfl) (by kernel_rfl) (e:=Extern.AbiNoEscape.same) (by kernel_rfl)];rw[Lib.run_noEscape];simp only[Result.andThen];rw[Oper.upon_value];go_wp2_with fail;rw[Lib.run_from_unsafe w ⟨b,0,none⟩ Tryz.underlying327 Tryz.underlying246 hj hsh Tryz.liesBuilder];simp only[Result.andThen];rw[Oper.upon_value];go_wp2_with fail
 go_end0
 exact⟨rfl,rfl⟩
theorem Y7c(s:ByteArray):Lib.strCells s=s.data.toList.flatMap encU:=by
 unfold Lib.strCells;rw[List.flatMap_def]
 induction s.data.toList with
 | nil=>rfl
 | cons c r ih=>simp[encU]at ih ⊢;exact ih
theorem Y5j(l:List UInt8):Lib.byteCells l=l.flatMap encU:=by
 unfold Lib.byteCells
 induction l with
 | nil=>rfl
 | cons c r ih=>simp[encU]at ih ⊢;exact ih
section
variable {P:Program} (w:World)
theorem Y8o(base:Nat)(t u ty e:TypeId)(i:TypeInfo)(ht:P.underlying t=some (.slice e))(hu:P.underlying u=some .string)(hi:P.info? e=some i)(hz:i.zero=some (.int .u8 0))
 (hsize:i.size=1)(hby:i.bytes=1)(v:Value)(n:Nat)(xs:List Value)(hown:w.ownsRow base e 1 v n xs)(s:ByteArray)
 (h63:n+s.size<=maxLen)(hbytes:n+s.size<=140737488355328)(hbase:base<=w.heap.size):
  ∃v' w',(Builtin.append_ #[t,u] ty #[v,.string s]).run P w= .ok v' w'/\w'.ownsRow base e 1 v' (n+s.size) (xs++Lib.strCells s)/\w.grownBy w' v.ownBlock/\(∀k,v'.ownBlock=some k->v.ownBlock=some k\/w.heap.size<=k):=by
 obtain⟨v',w',hr,h2,h3,h4⟩:=Lib.run_append_own_string (P:=P) w base t u ty e i ht hu hi hz hsize hby v n xs hown s h63 hbytes hbase;refine⟨v',w',hr,h2,h3,fun k hk=> ?_⟩;have hxl:xs.length=n:=by simpa using hown.1
 have hsmall:n+s.size<=9223372036854775807:=by simp only[maxLen]at h63;omega
 rcases hown.2 with ⟨rfl,rfl⟩ | ⟨g,cap,cur,rfl,hbg,hg,hnc,hcm,hcs,htake⟩
 ·by_cases hm:s.size=0
  ·have:=h4.2 ⟨rfl,hm⟩;subst this;exact .inl hk
  ·have hr2:=run_append_nil_string (P:=P) w t u ty e i (.int .u8 0) ht hu hi hz s (by omega) (by omega) (by rw[hby];omega);rw[hr]at hr2;injection hr2 with q1 q2;subst q1;simp only[Value.ownBlock,Option.some.injEq]at hk;exact .inr (by omega)
 ·by_cases hroom:n+s.size<=cap
  ·have hcs':cur.size=cap:=by simpa using hcs
   have hr2:=Lib.run_append_room_string (P:=P) w t u ty e i ht hu hi hsize g n cap cur hg s hroom (by omega);rw[hr]at hr2;injection hr2 with q1 q2;subst q1;exact .inl hk
  ·have holds:∀j u,xs[j]? =some u->w.cell? ((⟨g,0,none⟩:Addr).add j)=some u:=hown.cells (g:=g) rfl;have hr2:=Lib.run_append_grow_string (P:=P) w t u ty e i (.int .u8 0) ht hu hi hz ⟨g,0,none⟩ n cap xs (by rw[hsize];simpa using hxl) holds s (by omega) (by omega) (by rw[hby];exact growslice_fits (by omega) (by omega));rw[hr]at hr2;injection hr2 with q1 q2;subst q1;simp only[Value.ownBlock,Option.some.injEq]at hk;exact .inr (by omega)
end
theorem Y8t{ops:Array Oper}{rest:List Oper}{o:Oper}{a:Act}{w:World}{Q:Exit->Act->World->Prop}(hgd:o.guard=none)(s x:Operand)
 (ho:o.op= .call { callee:= .builtin .append,args:=#[s,x],argTypes:=#[227,9]})
 {base:Nat}(v:Value)(l:List UInt8)(hs:a.eval s=v)(hown:OwnB w base v l)(hbase:base<=w.heap.size)(d:ByteArray)(hx:a.eval x= .string d)(h63:l.length+d.size<=1000000000)
 (h:∀A' c' n' w',n'=(l++d.data.toList).length->OwnB w' base (.slice A' n' c') (l++d.data.toList)->w.grownBy w' v.ownBlock->(∀k,(Value.slice A' n' c').ownBlock=some k->v.ownBlock=some k\/w.heap.size<=k)->wpList Tryz.prog ops Q rest (a.put o.dst (.slice A' n' c')) w'):wpList Tryz.prog ops Q (o::rest) a w:=by
 refine wpList_plain hgd fun K hK=> ?_;obtain⟨i0,hi,hz0,hz1,hz2⟩:=info_parts Tryz.infoU8;have hown':w.ownsRow base 5 1 v l.length (l.flatMap encU):=hown;obtain⟨v',w',hr,h2,h3,h4⟩:=Y8o (P:=Tryz.prog) w base 227 9 o.type 5 i0 Tryz.underlying227 Tryz.underlying9 hi hz0 hz1 hz2 v l.length (l.flatMap encU) hown' d (by unfold maxLen;omega) (by omega) hbase;have hdl:d.data.toList.length=d.size:=by rw[Array.length_toList];rfl
 have h2':OwnB w' base v' (l++d.data.toList):=by unfold OwnB OwnL;rw[aH,<-Y7c,aA,hdl];exact h2
 obtain⟨A',c',rfl⟩:=OwnL.form h2';unfold Oper.wp execOp;simp only[ho,resolve,invoke,builtin,Sem.run_bind,Sem.run_pure,Result.andThen_ok,List.map_toArray,List.map_cons,List.map_nil,hs,hx,hr];exact hK _ _ (h A' c' _ w' rfl h2' h3 h4)
structure BldAs (w:World) (b:Nat) (F:Nat->Prop) (l:List UInt8) (p v:Value):Prop where
 row:Row1 w b 248 [p,v]
 ptr:p= .pointer none\/p= .pointer (some ⟨b,0,none⟩)
 own:OwnB w 0 v l
 fb:F b
 fv:∀k,v.ownBlock=some k->F k
def BldAt(w:World)(b:Nat)(F:Nat->Prop)(l:List UInt8):Prop:=∃p v,BldAs w b F l p v
section
variable {w w':World} {b:Nat} {F F' G:Nat->Prop} {l:List UInt8} {p v:Value}
theorem BldAs.ne(h:BldAs w b F l p v):v.ownBlock≠some b:=h.own.apartRow h.row (by decide)
theorem BldAs.only(h:BldAs w b F l p v)(hb:Only G w w')(hG:∀i,F i->¬G i):BldAs w' b F l p v:=⟨hb.row h.row (hG b h.fb),h.ptr,h.own.only hb (fun k hk=>hG k (h.fv k hk)),h.fb,h.fv⟩
theorem BldAt.only(h:BldAt w b F l)(hb:Only G w w')(hG:∀i,F i->¬G i):BldAt w' b F l:=let ⟨_,_,h⟩:=h;⟨_,_,h.only hb hG⟩
theorem BldAt.ext(h:BldAt w b F l)(hb:Ext w w'):BldAt w' b F l:=h.only (G:=fun _=>False) (Only.of hb) (fun _ _ q=>q)
theorem BldAt.made(w:World):BldAt (w.alloc (.cells #[.pointer none,.slice none 0 0] 248)) w.heap.size (fun i=>i=w.heap.size) []:=
 ⟨_,_,Row1.made w _ _,.inl rfl,OwnL.nil _ _ _ _ _,rfl,fun k hk=>by cases hk⟩
end
theorem Y6n{w:World}{b:Nat}{F:Nat->Prop}{l:List UInt8}(h:BldAt w b F l):
  Calls Tryz.prog 213 #[.pointer (some ⟨b,0,none⟩)] w fun e w'=>e= .returned (.tuple #[])/\(∃v,BldAs w' b F l (.pointer (some ⟨b,0,none⟩)) v)/\Only (fun i=>i=b) w w':=by
 obtain⟨p,v,h⟩:=h;rcases h.ptr with rfl | rfl
 ·refine(Y4u b w (h.row.cell 0) (by unfold World.shape?;rw[show w.heap[b]? =_ from h.row];rfl) (h.row.soft 0)).mono ?_;rintro e w' ⟨rfl,rfl⟩;have ho:Only (fun i=>i=b) w (w.setCell ⟨b,0,none⟩ (.pointer (some ⟨b,0,none⟩))):=Only.setCell (F:=fun i=>i=b) (p:=⟨b,0,none⟩) Only.refl (.inl rfl) _;exact⟨rfl,⟨v,h.row.set 0 _,.inr rfl,h.own.only ho (fun k hk q=>h.ne (by rw[hk,q])),h.fb,h.fv⟩,ho⟩
 ·refine(Y5h b w (h.row.cell 0)).mono ?_;rintro e w' ⟨rfl,rfl⟩;exact⟨rfl,⟨v,h⟩,Only.refl⟩
theorem Y6q{w0 w1 W w2:World}{b:Nat}{F:Nat->Prop}{l l':List UInt8}{p v v':Value}(H:BldAs w1 b F l p v)(hp:p= .pointer (some ⟨b,0,none⟩))(h01:Only (fun i=>i=b) w0 w1)(hW:Ext w1 W)(hown:OwnB w2 0 v' l')(hgr:W.grownBy w2 v.ownBlock)
 (hwh:∀k,v'.ownBlock=some k->v.ownBlock=some k\/W.heap.size<=k):
  ∃F',BldAt (w2.setCell ⟨b,1,none⟩ v') b F' l'/\Keeps F F' w0 (w2.setCell ⟨b,1,none⟩ v'):=by
 subst hp;have hR:Row1 W b 248 [.pointer (some ⟨b,0,none⟩),v]:=H.row.ext hW H.row.lt;have hR2:=hR.grown hgr (fun e=>H.ne e.symm);have hvb:v'.ownBlock≠some b:=hown.apartRow hR2 (by decide);have ho:Only (fun i=>i=b) w2 (w2.setCell ⟨b,1,none⟩ v'):=Only.setCell (F:=fun i=>i=b) (p:=⟨b,1,none⟩) Only.refl (.inl rfl) v';refine⟨fun i=>F i\/v'.ownBlock=some i,⟨_,v',hR2.set 1 v',.inr rfl,hown.only ho (fun k hk q=>hvb (by rw[hk,q])),.inl H.fb,fun k hk=> .inr hk⟩,⟨?_,fun i q=> ?_⟩⟩
 ·refine(((h01.mono (fun i q=> .inl (by rw[q];exact H.fb))).ext hW).trans' (Only.grown hgr |>.mono (fun i q=> .inl (H.fv i q)))).trans' (ho.mono (fun i q=> .inl (by rw[q];exact H.fb)))
 ·rcases q with q | q
  ·exact .inl q
  ·rcases hwh i q with q | q
   ·exact .inl (H.fv i q)
   ·exact .inr (Nat.le_trans h01.size (Nat.le_trans hW.size q))
theorem Z6k{w:World}{b:Nat}{F:Nat->Prop}{l:List UInt8}(s:ByteArray)(h:BldAt w b F l)(hlen:l.length+s.size<=1000000000):
  Calls Tryz.prog 172 #[.pointer (some ⟨b,0,none⟩),.string s] w fun e w'=>e= .returned (.tuple #[.int .i64 s.size,.nilIface])/\∃F',BldAt w' b F' (l++s.data.toList)/\Keeps F F' w w':=by
 have cC:=Y6n h;clear h;go_enter Tryz.func172,Tryz.ntmps172;go_wp2_with (go_at_call 213;refine cC.mono ?_);rintro e w1 ⟨rfl,⟨v,h1⟩,hb1⟩;clear cC;obtain⟨A,c,rfl⟩:=OwnL.form h1.own;have H1:=hD h1;have HB1:=hD hb1;have c1:w1.cell? ⟨b,1,none⟩=some (.slice A l.length c):=h1.row.cell 1;clear h1 hb1;go_wp2_with (at_builtin;refine Y8t rfl _ _ rfl _ l rfl H1.out.own (Nat.zero_le _) s rfl hlen ?_;intro A' c' n' w2 hn' hown2 hgr hwh;have HF:=hD (Y6q H1.out rfl HB1.out (Ext.refl _) hown2 hgr hwh);have HR2:=H1.out.row.grown hgr (fun e=>H1.out.ne e.symm);have d1:w2.cell? ⟨b,1,none⟩=some (.slice A l.length c):=HR2.cell 1;have f1:w2.frozen? ⟨b,1,none⟩=false:=HR2.soft 1;clear hn' hown2 hgr hwh HR2)
 go_ret2
 exact⟨rfl,HF.out⟩
theorem X2w{w:World}{b:Nat}{F:Nat->Prop}{l:List UInt8}(c:UInt8)(h:BldAt w b F l)(hlen:l.length+1<=1000000000):
  Calls Tryz.prog 261 #[.pointer (some ⟨b,0,none⟩),.int .u8 c.toNat] w fun e w'=>e= .returned .nilIface/\∃F',BldAt w' b F' (l++ [c])/\Keeps F F' w w':=by
 have cC:=Y6n h;clear h;go_enter Tryz.func261,Tryz.ntmps261;go_wp2_with (go_at_call 213;refine cC.mono ?_);rintro e w1 ⟨rfl,⟨v,h1⟩,hb1⟩;clear cC;obtain⟨A,cc,rfl⟩:=OwnL.form h1.own;have H1:=hD h1;have HB1:=hD hb1;have c1:w1.cell? ⟨b,1,none⟩=some (.slice A l.length cc):=h1.row.cell 1;have hbl:=h1.row.lt;clear h1 hb1;go_wp2_with (at_builtin;refine Z0t elU8 Z4o Y2m rfl _ _ rfl _ l rfl (H1.out.own.only (G:=fun _=>False) (Only.of (by exact Xt)) (fun _ _ q=>q)) (Nat.zero_le _) w1.heap.size 1 c rfl (Row1.made w1 _ (encU c)) hlen (by decide) ?_;intro A' c' w2 hown2 hgr hwh;have HF:=hD (Y6q H1.out rfl HB1.out (Ext.alloc w1 _) hown2 hgr hwh);have HR2:=(H1.out.row.alloc (.cells #[.int .u8 c.toNat] 5)).grown hgr (fun e=>H1.out.ne e.symm);have d1:w2.cell? ⟨b,1,none⟩=some (.slice A l.length cc):=HR2.cell 1;have f1:w2.frozen? ⟨b,1,none⟩=false:=HR2.soft 1;clear hown2 hgr hwh HR2);go_ret;refine⟨rfl,?_⟩;have:=HF.out;rw[aA,aK]at this;exact this
theorem X2m(w:World)(g n:Nat):Only (fun i=>i=g) w (w.freeze ⟨g,0,none⟩ n):=by
 unfold World.freeze;split
 ·exact Only.refl
 ·exact⟨rfl,rfl,rfl,by simp,fun i hi hn=>Array.getElem?_modify .. |>.trans (if_neg (fun e=>hn e.symm))⟩
theorem Z9d{w:World}{b:Nat}{F:Nat->Prop}{l:List UInt8}(h:BldAt w b F l)(h0:l≠ []):
  Calls Tryz.prog 175 #[.pointer (some ⟨b,0,none⟩)] w fun e w'=>e= .returned (.string (bts l))/\Only F w w':=by
 obtain⟨p,v,h⟩:=h;have hl0:l.length≠0:=by simpa using h0
 have hown:w.ownsRow 0 5 1 v l.length (l.flatMap encU):=h.own;obtain⟨g,cap,cur,rfl,hbg,hg,hnc,hcm,hcs,htake⟩:∃g cap cur,v= .slice (some ⟨g,0,none⟩) l.length cap/\0<=g/\w.heap[g]? =some (.cells cur 5 (0,0))/\l.length<=cap/\cap<=maxLen/\cur.size=cap*1/\cur.toList.take (l.length*1)=l.flatMap encU:=by
  rcases hown.2 with ⟨_,hz⟩ | ⟨g,cap,cur,hv,r⟩
  ·exact absurd hz hl0
  ·exact⟨g,cap,cur,hv,r⟩
 have c1:w.drew.cell? ⟨b,1,none⟩=some (.slice (some ⟨g,0,none⟩) l.length cap):=h.row.cell 1;have hSD:∀ty,(Builtin.unsafeSliceData_ #[227] ty #[.slice (some ⟨g,0,none⟩) l.length cap]).run Tryz.prog w.drew= .ok (.pointer (some ⟨g,0,none⟩)) w.drew:=fun ty=>
  Lib.run_unsafeSliceData_row _ _ _ _ _ _ (by omega)
 have hUS:(Builtin.unsafeString_ #[290,3] 9 #[.pointer (some ⟨g,0,none⟩),.int .i64 l.length]).run Tryz.prog w.drew= .ok (.string (bts l)) (w.drew.freeze ⟨g,0,none⟩ l.length):=by refine Lib.run_unsafeString_row w.drew 290 3 9 5 Tryz.underlying290 (by kernel_rfl) g cur.size (by have hg':w.drew.heap[g]? =some (.cells cur 5 (0,0)):=hg;simp[World.shape?,hg']) l h0 (by omega) (by unfold maxLen at hcm;omega) ?_;intro j x hx;have:=hown.cells (g:=g) rfl j (.int .u8 x.toNat) (by rw[<-Y5j];simp[Lib.byteCells,hx]);exact this
 have HF:Hid (Only F w (w.drew.freeze ⟨g,0,none⟩ l.length)):=((Only.refl (F:=F)).drew).trans' ((X2m w.drew g l.length).mono (fun i q=> .inl (by rw[q];exact h.fv g rfl)));clear h hown hg htake hcs;go_enter Tryz.func175,Tryz.ntmps175;go_wp2_with fail
 go_region
 go_wp2_with fail;go_ret;exact⟨rfl,HF.out⟩
def BX(w wr:World)(b B:Nat)(t:TypeId)(cs:List Value)(l:List UInt8):Prop:=
 ∃F:Nat->Prop,BldAt wr b F l/\(∀i,F i->w.heap.size<=i/\i≠B)/\Ext w wr/\Row1 wr B t cs
theorem BX.bstep{w wr w':World}{b B:Nat}{t:TypeId}{cs:List Value}{l':List UInt8}{F F':Nat->Prop}(hF:∀i,F i->w.heap.size<=i/\i≠B)(hx:Ext w wr)(hr:Row1 wr B t cs)(hb:BldAt w' b F' l')(hk:Keeps F F' wr w'):BX w w' b B t cs l':=by
 have hs:=hx.size;refine⟨F',hb,fun i q=> ?_,?_,hk.only.row hr (fun q=>(hF _ q).2 rfl)⟩
 ·rcases hk.new i q with q | q
  ·exact hF i q
  ·have:=hr.lt;omega
 ·refine Only.toExt (F:=fun i=>w.heap.size<=i) ?_ (fun i q=>q);exact(Only.of hx).trans' (hk.only.mono (fun i q=> .inl (hF i q).1))
theorem BX.ext{w W W':World}{b B:Nat}{t:TypeId}{cs:List Value}{l:List UInt8}(h:BX w W b B t cs l)(hx:Ext W W'):BX w W' b B t cs l:=by obtain⟨F,h1,h2,h3,h4⟩:=h;exact⟨F,h1.ext hx,h2,h3.trans hx,h4.ext hx h4.lt⟩
theorem V8j{w W:World}{b B:Nat}{t:TypeId}{cs:List Value}{l:List UInt8}(s:ByteArray)(hs:s.size<=1000000)(h:BX w W b B t cs l)(hl:l.length<=100000000):
  Calls Tryz.prog 172 #[.pointer (some ⟨b,0,none⟩),.string s] W fun e w'=>e= .returned (.tuple #[.int .i64 s.size,.nilIface])/\BX w w' b B t cs (l++s.data.toList):=by
 obtain⟨F,h1,h2,h3,h4⟩:=h;refine(Z6k s h1 (by omega)).mono ?_;rintro e w' ⟨rfl,F',q1,q2⟩;exact⟨rfl,BX.bstep h2 h3 h4 q1 q2⟩
theorem U1s{w W:World}{b B:Nat}{t:TypeId}{cs:List Value}{l:List UInt8}(h:BX w W b B t cs l)(h0:l≠ []):
  Calls Tryz.prog 175 #[.pointer (some ⟨b,0,none⟩)] W fun e w'=>e= .returned (.string (bts l))/\Ext w w':=by
 obtain⟨F,h1,h2,h3,h4⟩:=h;refine(Z9d h1 h0).mono ?_;rintro e w' ⟨rfl,q2⟩;refine⟨rfl,Only.toExt (F:=fun i=>w.heap.size<=i) ?_ (fun i q=>q)⟩;exact(Only.of h3).trans' (q2.mono (fun i q=> .inl (h2 i q).1))
def opP(o:OpD)(k:Nat):List UInt8:=((opV o).take k).flatMap (fun n=>varL n.toNat)
theorem V6h(o:OpD)(k:Nat)(n:Int)(h:(opV o)[k]? =some n):opP o (k+1)=opP o k++varL n.toNat:=by unfold opP;rw[List.take_add_one,h,aH];simp
theorem V1d{o:OpD}(h:OpIn o)(k:Nat):(opP o k).length<=100:=by
 have h1:=Y1s ((opV o).take k) (fun n hn=>h.nums n (List.mem_of_mem_take hn));have h2:((opV o).take k).length<=8:=by rw[aD];exact Nat.min_le_right _ _
 unfold opP;omega
theorem Z7c(o:OpD)(w:World)(hr: -9223372036854775808<=o.result/\o.result<=9223372036854775807):
  Calls Tryz.prog 118 #[o.val] w fun e w'=>e= .returned (.tuple #[.string (if Z2i o=0 then bts (opL o)else⟨#[]⟩),.int .i64 (Z2i o)])/\Ext w w':=by
 have cC:Hid (∀W,Calls Tryz.prog 171 #[.agg #[.int .i64 o.id,.int .i64 o.proc,.int .i64 o.object,.int .i64 o.kind,.int .i64 o.method,.int .i64 o.arg,.int .i64 o.second,.bool o.done,.int .i64 o.result,.int .i64 o.invoke,.int .i64 o.ret]] W fun e w'=>e= .returned (.int .i64 (Z2i o))/\Ext W w'):=fun W=>Y3t o W hr;have HBX:Hid (∀W:World,Ext (w.alloc (.cells #[.int .i64 o.id,.int .i64 o.proc,.int .i64 o.object,.int .i64 o.kind,.int .i64 o.method,.int .i64 o.arg,.int .i64 o.second,.bool o.done,.int .i64 o.result,.int .i64 o.invoke,.int .i64 o.ret] 32)) W->At11 W w.heap.size o):=fun W h=>(At11.row (Row1.made w 32 o.cells)).ext h (by simp);have HIN:Hid (Z2i o=0->OpIn o):=OpIn.of;obtain⟨c,hc⟩:∃c,Z2i o=c:=⟨_,rfl⟩;rw[hc]at cC HIN;rw[hc];clear hc hr;by_cases h0:c=0
 ·subst h0;rw[if_pos rfl];have HI:=hD (HIN.out rfl);clear HIN;go_enter Tryz.func118,Tryz.ntmps118;go_upto_region 5 with (go_at_call 171;(with_reducible refine(cC.out _).mono ?_);clear cC;rintro e w1 ⟨rfl,hb1⟩;have HB1:=hD hb1;clear hb1);obtain⟨d0,d1,d2,d3,d4,d5,d6,d7,d8,d9,d10⟩:=HBX.out (w1.alloc (.cells #[.pointer none,.slice none 0 0] 248)) (HB1.out.trans (Ext.alloc _ _));have HBB:Hid (BX w1 ((w1.alloc (.cells #[.pointer none,.slice none 0 0] 248)).alloc (.cells #[.int .i64 o.id,.int .i64 o.proc,.int .i64 o.object,.int .i64 o.kind,.int .i64 o.method,.int .i64 o.arg,.int .i64 o.second,.int .i64 o.invoke] 3)) w1.heap.size (w1.heap.size+1) 3 ((opV o).map (fun n=>Value.int .i64 n)) (opP o 0)):=
   ⟨fun i=>i=w1.heap.size,(BldAt.made w1).ext (Ext.alloc _ _),fun i q=>by omega,(Ext.alloc _ _).trans (Ext.alloc _ _),Row1.made' (by simp) _ _⟩
  have cS:Hid (∀(s:ByteArray) (l:List UInt8) W,s.size<=1000000->BX w1 W w1.heap.size (w1.heap.size+1) 3 ((opV o).map (fun n=>Value.int .i64 n)) l->l.length<=100000000->Calls Tryz.prog 172 #[.pointer (some ⟨w1.heap.size,0,none⟩),.string s] W fun e w'=>e= .returned (.tuple #[.int .i64 s.size,.nilIface])/\BX w1 w' w1.heap.size (w1.heap.size+1) 3 ((opV o).map (fun n=>Value.int .i64 n)) (l++s.data.toList)):=fun s l W hs hb hl=>V8j s hs hb hl;have cV:Hid (∀(n:Nat) W,n<18446744073709551616->Calls Tryz.prog 173 #[.int .u64 n] W fun e w'=>e= .returned (.string (bts (varL n)))/\Ext W w'):=fun n W hn=>V9i n W hn;have HVS:Hid (∀n,(bts (varL n)).size<=1000000):=fun n=>by have:=(Z7u n).2;rw[Z0i];omega
  go_wp2_with fail;clear d0 d1 d2 d3 d4 d5 d6 d7 d8 d9 d10
  go_loopw [31] (fun i wr=>∃k:Nat,k<=8/\i= .int .i64 k/\BX w1 wr w1.heap.size (w1.heap.size+1) 3 ((opV o).map (fun n=>Value.int .i64 n)) (opP o k)) (fun i _=>8-(intOf i).toNat)
  case atStart=>exact⟨0,by omega,rfl,HBB.out⟩
  case round=>
   obtain⟨k,hk,rfl,hbw⟩:=hrel;have HBW:=hD hbw;have hx1:Ext w1 wr:=hbw.choose_spec.2.2.1;have hrow:Row1 wr (w1.heap.size+1) 3 ((opV o).map (fun n=>Value.int .i64 n)):=hbw.choose_spec.2.2.2;clear hbw;by_cases hkl:k<8
   ·have q1:decide ((k:Int)<8)=true:=aN;have hkv:k<(opV o).length:=hkl;have c0:wr.cell? ⟨w1.heap.size+1,k,none⟩=some (.int .i64 (opV o)[k]):=by rw[hrow.cell k,List.getElem?_map,aB hkv];rfl
    have hin:=HI.out.nums _ (List.getElem_mem hkv);have HST:=hD (V6h o k _ (aB hkv));have hpl:=V1d HI.out k;have HROW:=hD hrow;have hgl:=hrow.lt;generalize (opV o)[k]=n at *;obtain⟨m,rfl⟩:∃m:Nat,n=m:=⟨n.toNat,by omega⟩;have hu:IntKind.u64.wrap (m:Int)=m:=by rw[IntKind.wrap_u64];omega
    have cV1:=cV.out m wr (by omega);have cS1:Hid (∀W,Ext wr W->Calls Tryz.prog 172 #[.pointer (some ⟨w1.heap.size,0,none⟩),.string (bts (varL m))] W fun e w'=>e= .returned (.tuple #[.int .i64 (bts (varL m)).size,.nilIface])/\BX w1 w' w1.heap.size (w1.heap.size+1) 3 ((opV o).map (fun n=>Value.int .i64 n)) (opP o (k+1))):=fun W hW=>by have h1:=cS.out (bts (varL m)) (opP o k) W (HVS.out m) (HBW.out.ext hW) (by omega);rw[Z1r]at h1;rw[HST.out];exact h1
    generalize bts (varL m)=bx at *;clear hx1 hrow hin HST cS;go_wp2_with (first
     | (go_at_call 173;(with_reducible refine cV1.mono ?_);clear cV1;rintro e w2 ⟨rfl,hb2⟩)
     | (go_at_call 172;(with_reducible refine(cS1.out _ hb2).mono ?_);clear cS1;rintro e w3 ⟨rfl,hb3⟩;have HB3:=hD hb3;clear hb3))
    go_roundw
    case rel=>exact⟨k+1,by omega,by go_num,HB3.out⟩
    case measure=>simp[intOf];omega
   ·obtain rfl:k=8:=by omega
    obtain⟨d0,d1,d2,d3,d4,d5,d6,d7,d8,d9,d10⟩:=HBX.out wr (HB1.out.trans hx1);have HX1:=hD hx1;have HE:Hid (opP o 8=(opV o).flatMap (fun n=>varL n.toNat)):=rfl;have cT:Hid (∀(l:List UInt8) W,BX w1 W w1.heap.size (w1.heap.size+1) 3 ((opV o).map (fun n=>Value.int .i64 n)) l->l=opL o->Calls Tryz.prog 175 #[.pointer (some ⟨w1.heap.size,0,none⟩)] W fun e w'=>e= .returned (.string (bts (opL o)))/\Ext w1 w'):=fun l W hb hl=>by subst hl;exact U1s hb (U0f o)
    have hpl:=V1d HI.out 8;clear hx1 hrow d0 d1 d2 d3 d4 d5 d6;cases hd:o.done with
    | false=>
      rw[hd]at d7;have cT1:=cT.out _ _ HBW.out (by unfold opL;rw[if_neg (by rw[hd];simp),List.append_nil];rfl);generalize hbx:bts (opL o)=bx at cT1;go_wp2_with (go_at_call 175;(with_reducible refine cT1.mono ?_);clear cT1;rintro e w4 ⟨rfl,hb4⟩;have HB4:=hD hb4;clear hb4)
      go_ret2
      subst hbx;exact⟨rfl,((Ext.alloc _ _).trans HB1.out).trans HB4.out⟩
    | true=>
      rw[hd]at d7;have hy:=HI.out.yes hd;have hiv:=HI.out.invoke;have hre:=HI.out.result;obtain⟨m,hm⟩:∃m:Nat,o.ret-o.invoke=m:=⟨(o.ret-o.invoke).toNat,by omega⟩;have hu1:IntKind.i64.wrap (o.ret-o.invoke)=o.ret-o.invoke:=by rw[IntKind.wrap_i64];omega
      have hu:IntKind.u64.wrap (m:Int)=m:=by rw[IntKind.wrap_u64];omega
      have HEND:Hid (opL o=opP o 8++varL m++varL (Z4j o.result)):=by unfold Hid opL;rw[if_pos hd,HE.out,hm,aG];rfl
      have cV1:=cV.out m wr (by omega);have cV2:Hid (∀W,Calls Tryz.prog 173 #[.int .u64 (Z4j o.result)] W fun e w'=>e= .returned (.string (bts (varL (Z4j o.result))))/\Ext W w'):=fun W=>cV.out _ W (V7q (by omega) (by omega));have cF:Hid (∀W,Calls Tryz.prog 174 #[.int .i64 o.result] W fun e w'=>e= .returned (.int .u64 (Z4j o.result))/\W=w'):=fun W=>V7p o.result W (by omega) (by omega);have HQ8:Hid ((opP o 8).length<=100):=hpl;have cS1:Hid (∀W,Ext wr W->Calls Tryz.prog 172 #[.pointer (some ⟨w1.heap.size,0,none⟩),.string (bts (varL m))] W fun e w'=>e= .returned (.tuple #[.int .i64 (bts (varL m)).size,.nilIface])/\BX w1 w' w1.heap.size (w1.heap.size+1) 3 ((opV o).map (fun n=>Value.int .i64 n)) (opP o 8++varL m)):=fun W hW=>by have h1:=cS.out (bts (varL m)) (opP o 8) W (HVS.out m) (HBW.out.ext hW) (by have:=HQ8.out;omega);rw[Z1r]at h1;exact h1
      have cS2:Hid (∀W,BX w1 W w1.heap.size (w1.heap.size+1) 3 ((opV o).map (fun n=>Value.int .i64 n)) (opP o 8++varL m)->Calls Tryz.prog 172 #[.pointer (some ⟨w1.heap.size,0,none⟩),.string (bts (varL (Z4j o.result)))] W fun e w'=>e= .returned (.tuple #[.int .i64 (bts (varL (Z4j o.result))).size,.nilIface])/\BX w1 w' w1.heap.size (w1.heap.size+1) 3 ((opV o).map (fun n=>Value.int .i64 n)) (opL o)):=fun W hW=>by have h1:=cS.out (bts (varL (Z4j o.result))) (opP o 8++varL m) W (HVS.out _) hW (by have:=HQ8.out;have:=(Z7u m).2;rw[aA];omega);rw[Z1r]at h1;rw[HEND.out];exact h1
      have cT1:Hid (∀W,BX w1 W w1.heap.size (w1.heap.size+1) 3 ((opV o).map (fun n=>Value.int .i64 n)) (opL o)->Calls Tryz.prog 175 #[.pointer (some ⟨w1.heap.size,0,none⟩)] W fun e w'=>e= .returned (.string (bts (opL o)))/\Ext w1 w'):=fun W hW=>cT.out _ W hW rfl;have HAX:Hid (∀(W:World) (l:List UInt8),BX w1 W w1.heap.size (w1.heap.size+1) 3 ((opV o).map (fun n=>Value.int .i64 n)) l->W.cell? ⟨w.heap.size,8,none⟩=some (.int .i64 o.result)):=fun W l ⟨_,_,_,hx,_⟩=>(HBX.out W (HB1.out.trans hx)).2.2.2.2.2.2.2.2.1;generalize hbx:bts (opL o)=bx at cT1;generalize bts (varL (Z4j o.result))=by2 at *;generalize Z4j o.result=fr at *;generalize bts (varL m)=by1 at *;obtain⟨hy1,hy2⟩:=hy;have hu:IntKind.u64.wrap (o.ret-o.invoke)=m:=by rw[hm];exact hu
      clear cT cS cV HEND;go_wp2_with (first
       | (go_at_call 173;(with_reducible refine cV1.mono ?_);clear cV1;rintro e w2 ⟨rfl,hb2⟩)
       | (go_at_call 172;(with_reducible refine(cS1.out _ hb2).mono ?_);clear cS1;rintro e w3 ⟨rfl,hb3⟩;have e8:=HAX.out _ _ hb3)
       | (go_at_call 174;(with_reducible refine(cF.out _).mono ?_);clear cF;rintro e w4 ⟨rfl,rfl⟩)
       | (go_at_call 173;(with_reducible refine(cV2.out _).mono ?_);clear cV2;rintro e w5 ⟨rfl,hb5⟩;have hb6:=hb3.ext hb5)
       | (go_at_call 172;(with_reducible refine(cS2.out _ hb6).mono ?_);clear cS2;rintro e w7 ⟨rfl,hb7⟩)
       | (go_at_call 175;(with_reducible refine(cT1.out _ hb7).mono ?_);clear cT1;rintro e w8 ⟨rfl,hb8⟩;have HB4:=hD hb8))
      go_ret2
      subst hbx;exact⟨rfl,((Ext.alloc _ _).trans HB1.out).trans HB4.out⟩
 ·rw[if_neg h0];have q1:decide (c=0)=false:=decide_eq_false h0;go_enter Tryz.func118,Tryz.ntmps118;go_wp2_with (go_at_call 171;(with_reducible refine(cC.out _).mono ?_);clear cC;rintro e w1 ⟨rfl,hb1⟩;have HB1:=hD hb1;clear hb1)
  go_ret2
  exact⟨rfl,(Ext.alloc _ _).trans HB1.out⟩
abbrev U1j(w:World)(r:Nat)(s:ByteArray)(ok:Bool):Prop:=Row1 w r 270 [.string s,.bool ok]
theorem V8l(a b:List UInt8):(bts (a++b)).extract a.length (bts (a++b)).size=bts b:=by rw[ByteArray.ext_iff,ByteArray.data_extract,Z0i];apply Array.ext';simp[bts]
theorem Y5x{r:Nat}(n:Nat)(t:List UInt8)(w:World)(h:U1j w r (bts (varL n++t)) true)(hn:n<=1099511627776)(ht:t.length<=1000000):
  Calls Tryz.prog 190 #[.pointer (some ⟨r,0,none⟩)] w fun e w'=>e= .returned (.int .i64 n)/\U1j w' r (bts t) true/\Only (fun i=>i=r) w w':=by
 have hv:=Z7u n;have hsz:(bts (varL n++t)).size=(varL n).length+t.length:=by rw[Z0i,aA]
 have cU:=X9g (bts (varL n++t)) (by omega) w;rw[Z1r,X5v (by omega) t]at cU;have hex:=V8l (varL n) t;generalize bts (varL n++t)=s at *;generalize (varL n).length=k at *;have c0:w.cell? ⟨r,0,none⟩=some (.string s):=h.cell 0;have c1:w.cell? ⟨r,1,none⟩=some (.bool true):=h.cell 1;have f0:w.frozen? ⟨r,0,none⟩=false:=h.soft 0;have f1:w.frozen? ⟨r,1,none⟩=false:=h.soft 1;have HR:=hD h;clear h;have q1:decide ((0:Int)<(k:Int))=true:=aN;have q2:decide ((n:Int)<=1099511627776)=true:=aN;have hks:k<=s.size:=by omega
 have hu:IntKind.i64.wrap (n:Int)=n:=by rw[IntKind.wrap_i64];omega
 have HO:Hid (∀(o9:Bool) (s9:ByteArray),Only (fun i=>i=r) w ((w.setCell ⟨r,1,none⟩ (.bool o9)).setCell ⟨r,0,none⟩ (.string s9))):=fun o9 s9=>(Only.setCell (F:=fun i=>i=r) (p:=⟨r,1,none⟩) Only.refl (.inl rfl) _).setCell (p:=⟨r,0,none⟩) (.inl rfl) _;have HEX:=hD hex;clear hex hsz;go_enter Tryz.func190,Tryz.ntmps190;go_wp2_with (go_at_call 230;(with_reducible refine cU.mono ?_);clear cU;rintro e w1 ⟨rfl,rfl⟩);go_ret;refine⟨rfl,?_,HO.out _ _⟩;have h9:=(HR.out.set 1 (.bool true)).set 0 (.string (s.extract k s.size));rw[<-HEX.out];exact h9
theorem X3t{fn:Func}{x y:Nat}(h:fn.results= #[.cell x 32,.tmp y])(tmps:Array Value)(w:World)(B:Nat)(o:OpD)(v:Value)(hB:tmps.getD x undef= .pointer (some ⟨B,0,none⟩))(hv:tmps.getD y undef=v)(hr:Row1 w B 32 o.cells):
  (results fn tmps).run Tryz.prog w= .ok (.tuple #[o.val,v]) w:=by
 rw[results_cell_tmp h,hB,hv];have c0:w.cell? ⟨B,0,none⟩=_:=hr.cell 0;have c1:w.cell? ⟨B,1,none⟩=_:=hr.cell 1;have c2:w.cell? ⟨B,2,none⟩=_:=hr.cell 2;have c3:w.cell? ⟨B,3,none⟩=_:=hr.cell 3;have c4:w.cell? ⟨B,4,none⟩=_:=hr.cell 4;have c5:w.cell? ⟨B,5,none⟩=_:=hr.cell 5;have c6:w.cell? ⟨B,6,none⟩=_:=hr.cell 6;have c7:w.cell? ⟨B,7,none⟩=_:=hr.cell 7;have c8:w.cell? ⟨B,8,none⟩=_:=hr.cell 8;have c9:w.cell? ⟨B,9,none⟩=_:=hr.cell 9;have c10:w.cell? ⟨B,10,none⟩=_:=hr.cell 10;unfold OpD.cells at c0 c1 c2 c3 c4 c5 c6 c7 c8 c9 c10
 go_simp
structure DW (w wx:World) (s:ByteArray):Prop where
 ext:Ext w wx
 res:Row1 wx w.heap.size 32 opZero.cells
 rd:U1j wx (w.heap.size+1) s true
theorem DW.next{w W:World}{n:Nat}{t:List UInt8}(h:DW w W (bts (varL n++t)))(hn:n<=1099511627776)(ht:t.length<=1000000):
  Calls Tryz.prog 190 #[.pointer (some ⟨w.heap.size+1,0,none⟩)] W fun e w'=>e= .returned (.int .i64 n)/\DW w w' (bts t):=by
 refine(Y5x n t W h.rd hn ht).mono ?_;rintro e w' ⟨rfl,h1,h2⟩;exact⟨rfl,⟨((Only.of h.ext).trans h2 (F:=fun i=>w.heap.size<=i) (fun i q=> .inl (by omega))).toExt (fun i q=>q),h2.row h.res (by omega),h1⟩⟩
structure DO (w wx:World) (s:ByteArray) (G:Nat) (cs:List Value):Prop where
 dw:DW w wx s
 row:Row1 wx G 32 cs
 far:w.heap.size+1<G
theorem DO.next{w W:World}{n:Nat}{t:List UInt8}{G:Nat}{cs:List Value}(h:DO w W (bts (varL n++t)) G cs)(hn:n<=1099511627776)(ht:t.length<=1000000):
  Calls Tryz.prog 190 #[.pointer (some ⟨w.heap.size+1,0,none⟩)] W fun e w'=>e= .returned (.int .i64 n)/\DO w w' (bts t) G cs:=by
 have hf:=h.far;refine(Y5x n t W h.dw.rd hn ht).mono ?_;rintro e w' ⟨rfl,h1,h2⟩;exact⟨rfl,⟨((Only.of h.dw.ext).trans h2 (F:=fun i=>w.heap.size<=i) (fun i q=> .inl (by omega))).toExt (fun i q=>q),h2.row h.dw.res (by omega),h1⟩,h2.row h.row (by omega),hf⟩
theorem DO.ext{w W W':World}{s:ByteArray}{G:Nat}{cs:List Value}(h:DO w W s G cs)(hx:Ext W W'):DO w W' s G cs:=
 ⟨⟨h.dw.ext.trans hx,h.dw.res.ext hx h.dw.res.lt,h.dw.rd.ext hx h.dw.rd.lt⟩,h.row.ext hx h.row.lt,h.far⟩
theorem DO.set{w W:World}{s:ByteArray}{G:Nat}{cs:List Value}(h:DO w W s G cs)(i:Nat)(v:Value):DO w (W.setCell ⟨G,i,none⟩ v) s G (cs.set i v):=by have hf:=h.far;exact⟨⟨((Only.of h.dw.ext (F:=fun i=>w.heap.size<=i)).setCell (p:=⟨G,i,none⟩) (.inl (by show _<=G;omega)) v).toExt (fun i q=>q),h.dw.res.setFar (p:=⟨G,i,none⟩) (by show _≠G;omega) _,h.dw.rd.setFar (p:=⟨G,i,none⟩) (by show _≠G;omega) _⟩,h.row.set i v,hf⟩
theorem DO.read{w W:World}{s:ByteArray}{G:Nat}{cs:List Value}(h:DO w W s G cs):W.cell? ⟨w.heap.size+1,0,none⟩=some (.string s)/\W.cell? ⟨w.heap.size+1,1,none⟩=some (.bool true):=⟨h.dw.rd.cell 0,h.dw.rd.cell 1⟩
theorem Z1l{w:World}{B:Nat}{t:TypeId}{v0 v1 v2 v3 v4 v5 v6 v7 v8 v9 v10:Value}(h:Row1 w B t [v0,v1,v2,v3,v4,v5,v6,v7,v8,v9,v10]):w.cell? ⟨B,0,none⟩=some v0/\w.cell? ⟨B,1,none⟩=some v1/\w.cell? ⟨B,2,none⟩=some v2/\w.cell? ⟨B,3,none⟩=some v3/\w.cell? ⟨B,4,none⟩=some v4/\w.cell? ⟨B,5,none⟩=some v5/\w.cell? ⟨B,6,none⟩=some v6/\w.cell? ⟨B,7,none⟩=some v7/\w.cell? ⟨B,8,none⟩=some v8/\w.cell? ⟨B,9,none⟩=some v9/\w.cell? ⟨B,10,none⟩=some v10:=
 ⟨h.cell 0,h.cell 1,h.cell 2,h.cell 3,h.cell 4,h.cell 5,h.cell 6,h.cell 7,h.cell 8,h.cell 9,h.cell 10⟩
theorem Z3q{w:World}{B:Nat}{t:TypeId}{cs:List Value}(h:Row1 w B t cs):w.frozen? ⟨B,0,none⟩=false/\w.frozen? ⟨B,1,none⟩=false/\w.frozen? ⟨B,2,none⟩=false/\w.frozen? ⟨B,3,none⟩=false/\w.frozen? ⟨B,4,none⟩=false/\w.frozen? ⟨B,5,none⟩=false/\w.frozen? ⟨B,6,none⟩=false/\w.frozen? ⟨B,7,none⟩=false/\w.frozen? ⟨B,8,none⟩=false/\w.frozen? ⟨B,9,none⟩=false/\w.frozen? ⟨B,10,none⟩=false:=
 ⟨h.soft 0,h.soft 1,h.soft 2,h.soft 3,h.soft 4,h.soft 5,h.soft 6,h.soft 7,h.soft 8,h.soft 9,h.soft 10⟩
theorem Z5o{w:World}{B:Nat}{t:TypeId}{c0 c1 c2 c3 c4 c5 c6 c7 c8 c9 c10:Value}(h:Row1 w B t [c0,c1,c2,c3,c4,c5,c6,c7,c8,c9,c10])(v0 v1 v2 v3 v4 v5 v6 v7 v8 v9 v10:Value):Row1 (((((((((((w.setCell ⟨B,0,none⟩ v0).setCell ⟨B,1,none⟩ v1).setCell ⟨B,2,none⟩ v2).setCell ⟨B,3,none⟩ v3).setCell ⟨B,4,none⟩ v4).setCell ⟨B,5,none⟩ v5).setCell ⟨B,6,none⟩ v6).setCell ⟨B,7,none⟩ v7).setCell ⟨B,8,none⟩ v8).setCell ⟨B,9,none⟩ v9).setCell ⟨B,10,none⟩ v10) B t [v0,v1,v2,v3,v4,v5,v6,v7,v8,v9,v10]:=(((((((((((h.set 0 v0).set 1 v1).set 2 v2).set 3 v3).set 4 v4).set 5 v5).set 6 v6).set 7 v7).set 8 v8).set 9 v9).set 10 v10)
theorem Y4m{w0 w:World}{B:Nat}(h:Ext w0 w)(hB:w0.heap.size<=B)(v0 v1 v2 v3 v4 v5 v6 v7 v8 v9 v10:Value):Ext w0 (((((((((((w.setCell ⟨B,0,none⟩ v0).setCell ⟨B,1,none⟩ v1).setCell ⟨B,2,none⟩ v2).setCell ⟨B,3,none⟩ v3).setCell ⟨B,4,none⟩ v4).setCell ⟨B,5,none⟩ v5).setCell ⟨B,6,none⟩ v6).setCell ⟨B,7,none⟩ v7).setCell ⟨B,8,none⟩ v8).setCell ⟨B,9,none⟩ v9).setCell ⟨B,10,none⟩ v10):=Only.toExt ((((((((((((Only.of h).setCell (F:=fun i=>w0.heap.size<=i) (p:=⟨B,0,none⟩) (.inl hB) v0).setCell (F:=fun i=>w0.heap.size<=i) (p:=⟨B,1,none⟩) (.inl hB) v1).setCell (F:=fun i=>w0.heap.size<=i) (p:=⟨B,2,none⟩) (.inl hB) v2).setCell (F:=fun i=>w0.heap.size<=i) (p:=⟨B,3,none⟩) (.inl hB) v3).setCell (F:=fun i=>w0.heap.size<=i) (p:=⟨B,4,none⟩) (.inl hB) v4).setCell (F:=fun i=>w0.heap.size<=i) (p:=⟨B,5,none⟩) (.inl hB) v5).setCell (F:=fun i=>w0.heap.size<=i) (p:=⟨B,6,none⟩) (.inl hB) v6).setCell (F:=fun i=>w0.heap.size<=i) (p:=⟨B,7,none⟩) (.inl hB) v7).setCell (F:=fun i=>w0.heap.size<=i) (p:=⟨B,8,none⟩) (.inl hB) v8).setCell (F:=fun i=>w0.heap.size<=i) (p:=⟨B,9,none⟩) (.inl hB) v9).setCell (F:=fun i=>w0.heap.size<=i) (p:=⟨B,10,none⟩) (.inl hB) v10) (fun i q=>q)
theorem X0c(o:OpD)(w:World)(ho:Z2i o=0):
  Calls Tryz.prog 126 #[.string (bts (opL o))] w fun e w'=>e= .returned (.tuple #[o.val,.int .i64 0])/\Ext w w':=by
 have hin:=OpIn.of ho;have cC:Hid (∀W,Calls Tryz.prog 171 #[.agg #[.int .i64 o.id,.int .i64 o.proc,.int .i64 o.object,.int .i64 o.kind,.int .i64 o.method,.int .i64 o.arg,.int .i64 o.second,.bool o.done,.int .i64 o.result,.int .i64 o.invoke,.int .i64 o.ret]] W fun e w'=>e= .returned (.int .i64 0)/\Ext W w'):=fun W=>by have h1:=Y3t o W (by have:=hin.result;omega);rwa [ho]at h1
 have hlen:=V1e hin;have HIN:=hD hin;obtain⟨T8,hT8⟩:∃T8,(if o.done=true then varL (o.ret-o.invoke).toNat++varL (Z4j o.result)else [])=T8:=⟨_,rfl⟩;have hT:opL o=(opV o).flatMap (fun n=>varL n.toNat)++T8:=by rw[<-hT8];rfl
 have hT:opL o=varL o.id.toNat++(varL o.proc.toNat++(varL o.object.toNat++(varL o.kind.toNat++(varL o.method.toNat++(varL o.arg.toNat++(varL o.second.toNat++(varL o.invoke.toNat++(T8)))))))):=by rw[hT];simp[opV,aG]
 obtain⟨T7,hT7⟩:∃T7,varL o.invoke.toNat++T8=T7:=⟨_,rfl⟩;obtain⟨T6,hT6⟩:∃T6,varL o.second.toNat++T7=T6:=⟨_,rfl⟩;obtain⟨T5,hT5⟩:∃T5,varL o.arg.toNat++T6=T5:=⟨_,rfl⟩;obtain⟨T4,hT4⟩:∃T4,varL o.method.toNat++T5=T4:=⟨_,rfl⟩;obtain⟨T3,hT3⟩:∃T3,varL o.kind.toNat++T4=T3:=⟨_,rfl⟩;obtain⟨T2,hT2⟩:∃T2,varL o.object.toNat++T3=T2:=⟨_,rfl⟩;obtain⟨T1,hT1⟩:∃T1,varL o.proc.toNat++T2=T1:=⟨_,rfl⟩;rw[hT7,hT6,hT5,hT4,hT3,hT2,hT1]at hT;obtain⟨T0,hT0⟩:∃T0,opL o=T0:=⟨_,rfl⟩;rw[hT0]at hT hlen ⊢;have l0:T0.length<=1000:=by omega
 have l1:T1.length<=1000:=by rw[hT,aA]at l0;omega
 have l2:T2.length<=1000:=by rw[<-hT1,aA]at l1;omega
 have l3:T3.length<=1000:=by rw[<-hT2,aA]at l2;omega
 have l4:T4.length<=1000:=by rw[<-hT3,aA]at l3;omega
 have l5:T5.length<=1000:=by rw[<-hT4,aA]at l4;omega
 have l6:T6.length<=1000:=by rw[<-hT5,aA]at l5;omega
 have l7:T7.length<=1000:=by rw[<-hT6,aA]at l6;omega
 have l8:T8.length<=1000:=by rw[<-hT7,aA]at l7;omega
 have cN:Hid (∀(n:Int) t W,DW w W (bts (varL n.toNat++t))->0<=n/\n<=1099511627776->t.length<=1000->Calls Tryz.prog 190 #[.pointer (some ⟨w.heap.size+1,0,none⟩)] W fun e w'=>e= .returned (.int .i64 n)/\DW w w' (bts t)):=fun n t W h hn ht=>by have h1:=h.next (by omega) (by omega);rwa [Int.toNat_of_nonneg hn.1]at h1
 have c0:Hid (∀W,DW w W (bts T0)->Calls Tryz.prog 190 #[.pointer (some ⟨w.heap.size+1,0,none⟩)] W fun e w'=>e= .returned (.int .i64 o.id)/\DW w w' (bts T1)):=fun W hW=>cN.out o.id T1 W (by rw[<-hT];exact hW) (hin.nums _ (by simp[opV])) l1;have c1:Hid (∀W,DW w W (bts T1)->Calls Tryz.prog 190 #[.pointer (some ⟨w.heap.size+1,0,none⟩)] W fun e w'=>e= .returned (.int .i64 o.proc)/\DW w w' (bts T2)):=fun W hW=>cN.out o.proc T2 W (by rw[hT1];exact hW) (hin.nums _ (by simp[opV])) l2;have c2:Hid (∀W,DW w W (bts T2)->Calls Tryz.prog 190 #[.pointer (some ⟨w.heap.size+1,0,none⟩)] W fun e w'=>e= .returned (.int .i64 o.object)/\DW w w' (bts T3)):=fun W hW=>cN.out o.object T3 W (by rw[hT2];exact hW) (hin.nums _ (by simp[opV])) l3;have c3:Hid (∀W,DW w W (bts T3)->Calls Tryz.prog 190 #[.pointer (some ⟨w.heap.size+1,0,none⟩)] W fun e w'=>e= .returned (.int .i64 o.kind)/\DW w w' (bts T4)):=fun W hW=>cN.out o.kind T4 W (by rw[hT3];exact hW) (hin.nums _ (by simp[opV])) l4;have c4:Hid (∀W,DW w W (bts T4)->Calls Tryz.prog 190 #[.pointer (some ⟨w.heap.size+1,0,none⟩)] W fun e w'=>e= .returned (.int .i64 o.method)/\DW w w' (bts T5)):=fun W hW=>cN.out o.method T5 W (by rw[hT4];exact hW) (hin.nums _ (by simp[opV])) l5;have c5:Hid (∀W,DW w W (bts T5)->Calls Tryz.prog 190 #[.pointer (some ⟨w.heap.size+1,0,none⟩)] W fun e w'=>e= .returned (.int .i64 o.arg)/\DW w w' (bts T6)):=fun W hW=>cN.out o.arg T6 W (by rw[hT5];exact hW) (hin.nums _ (by simp[opV])) l6;have c6:Hid (∀W,DW w W (bts T6)->Calls Tryz.prog 190 #[.pointer (some ⟨w.heap.size+1,0,none⟩)] W fun e w'=>e= .returned (.int .i64 o.second)/\DW w w' (bts T7)):=fun W hW=>cN.out o.second T7 W (by rw[hT6];exact hW) (hin.nums _ (by simp[opV])) l7;have c7:Hid (∀W,DW w W (bts T7)->Calls Tryz.prog 190 #[.pointer (some ⟨w.heap.size+1,0,none⟩)] W fun e w'=>e= .returned (.int .i64 o.invoke)/\DW w w' (bts T8)):=fun W hW=>cN.out o.invoke T8 W (by rw[hT7];exact hW) (hin.nums _ (by simp[opV])) l8;have HW0:Hid (DW w ((w.alloc (.cells #[.int .i64 0,.int .i64 0,.int .i64 0,.int .i64 0,.int .i64 0,.int .i64 0,.int .i64 0,.bool false,.int .i64 0,.int .i64 0,.int .i64 0] 32)).alloc (.cells #[.string (bts T0),.bool true] 270)) (bts T0)):=⟨(Ext.alloc _ _).trans (Ext.alloc _ _),(Row1.made w _ opZero.cells).alloc _,Row1.made' (by simp) _ [.string (bts T0),.bool true]⟩;have HT8:=hD hT8;clear hT hT0 hT8 hlen l0 l1 l2 l3 l4 l5 l6 l7 hT1 hT2 hT3 hT4 hT5 hT6 hT7;go_enter Tryz.func126,Tryz.ntmps126;go_upto_region 3 with (first
  | (go_at_call 190;(with_reducible refine(c0.out _ HW0.out).mono ?_);clear c0;rintro e w1 ⟨rfl,hd1⟩)
  | (go_at_call 190;(with_reducible refine(c1.out _ hd1).mono ?_);clear c1;rintro e w2 ⟨rfl,hd2⟩)
  | (go_at_call 190;(with_reducible refine(c2.out _ hd2).mono ?_);clear c2;rintro e w3 ⟨rfl,hd3⟩)
  | (go_at_call 190;(with_reducible refine(c3.out _ hd3).mono ?_);clear c3;rintro e w4 ⟨rfl,hd4⟩)
  | (go_at_call 190;(with_reducible refine(c4.out _ hd4).mono ?_);clear c4;rintro e w5 ⟨rfl,hd5⟩)
  | (go_at_call 190;(with_reducible refine(c5.out _ hd5).mono ?_);clear c5;rintro e w6 ⟨rfl,hd6⟩)
  | (go_at_call 190;(with_reducible refine(c6.out _ hd6).mono ?_);clear c6;rintro e w7 ⟨rfl,hd7⟩)
  | (go_at_call 190;(with_reducible refine(c7.out _ hd7).mono ?_);clear c7;rintro e w8 ⟨rfl,hd8⟩))
 have HD9:Hid (DO w (w8.alloc (.cells #[.int .i64 o.id,.int .i64 o.proc,.int .i64 o.object,.int .i64 o.kind,.int .i64 o.method,.int .i64 o.arg,.int .i64 o.second,.bool false,.int .i64 0,.int .i64 o.invoke,.int .i64 0] 32)) (bts T8) w8.heap.size [.int .i64 o.id,.int .i64 o.proc,.int .i64 o.object,.int .i64 o.kind,.int .i64 o.method,.int .i64 o.arg,.int .i64 o.second,.bool false,.int .i64 0,.int .i64 o.invoke,.int .i64 0]):=
  ⟨⟨hd8.ext.trans (Ext.alloc _ _),hd8.res.alloc _,hd8.rd.alloc _⟩,Row1.made w8 _ _,hd8.rd.lt⟩
 generalize hW9:w8.alloc _=W9 at *;clear hW9 hd1 hd2 hd3 hd4 hd5 hd6 hd7 hd8;generalize w8.heap.size=G at *;obtain⟨r0,r1⟩:=HD9.out.read;cases hd:o.done with
 | false=>
   obtain⟨hr1,hr2⟩:=HIN.out.no hd;have h8:T8= []:=by rw[<-HT8.out,hd];rfl
   subst h8;rw[hd,hr1,hr2]at cC;have hE:(bts ([]:List UInt8)).toList.isEmpty=true:=by rw[ByteArray.toList_eq];rfl
   have hE2:(bts ([]:List UInt8)).toList= []:=by rw[ByteArray.toList_eq];rfl
   obtain⟨g0,g1,g2,g3,g4,g5,g6,g7,g8,g9,g10⟩:=Z1l HD9.out.row;have HO:Hid (o.cells= [.int .i64 o.id,.int .i64 o.proc,.int .i64 o.object,.int .i64 o.kind,.int .i64 o.method,.int .i64 o.arg,.int .i64 o.second,.bool false,.int .i64 0,.int .i64 o.invoke,.int .i64 0]):=by unfold Hid OpD.cells;rw[hd,hr1,hr2]
   go_upto_region 9 with (go_at_call 171;(with_reducible refine(cC.out _).mono ?_);clear cC;rintro e w10 ⟨rfl,hb10⟩;have HB10:=hD hb10;clear hb10);have HD10:=hD (HD9.out.ext HB10.out);clear g0 g1 g2 g3 g4 g5 g6 g7 g8 g9 g10 r0 r1;obtain⟨g0,g1,g2,g3,g4,g5,g6,g7,g8,g9,g10⟩:=Z1l HD10.out.row;obtain⟨a0,a1,a2,a3,a4,a5,a6,a7,a8,a9,a10⟩:=Z1l HD10.out.dw.res;obtain⟨f0,f1,f2,f3,f4,f5,f6,f7,f8,f9,f10⟩:=Z3q HD10.out.dw.res;go_wp2_with fail;refine bodyPost_ret (X3t rfl _ _ w.heap.size o _ rfl rfl ?_) rfl ⟨rfl,?_⟩
   ·rw[HO.out];exact Z5o HD10.out.dw.res _ _ _ _ _ _ _ _ _ _ _
   ·exact Y4m HD10.out.dw.ext (aF _) _ _ _ _ _ _ _ _ _ _ _
 | true=>
   obtain⟨hy1,hy2⟩:=HIN.out.yes hd;have hre:=HIN.out.result;have hiv:=HIN.out.invoke;obtain⟨m,hm⟩:∃m:Nat,o.ret-o.invoke=m:=⟨(o.ret-o.invoke).toNat,by omega⟩;have hfu:Y0j (Z4j o.result)=o.result:=X1i _;have hfl:Z4j o.result<=1099511627776:=by unfold Z4j;split<;>omega
   obtain⟨fr,hfr⟩:∃fr,Z4j o.result=fr:=⟨_,rfl⟩;have h8:T8=varL m++(varL fr++ []):=by rw[<-HT8.out,hd,if_pos rfl,hm,hfr,List.append_nil];rfl
   have hfz:(varL fr++ []).length<=1000:=by rw[List.append_nil];have:=(Z7u fr).2;omega
   rw[hfr]at hfu hfl;have hE:(bts T8).toList.isEmpty=false:=by
    rw[ByteArray.toList_eq,h8];have:=(Z7u m).1;cases hq:varL m with
    | nil=>rw[hq]at this;simp at this
    | cons a b=>rfl
   have hne:¬(bts T8).toList= []:=by intro q;rw[q]at hE;simp at hE
   have cM:Hid (∀W cs,DO w W (bts T8) G cs->Calls Tryz.prog 190 #[.pointer (some ⟨w.heap.size+1,0,none⟩)] W fun e w'=>e= .returned (.int .i64 (m:Nat))/\DO w w' (bts (varL fr++ [])) G cs):=fun W cs hW=>(h8▸hW:DO w W (bts (varL m++(varL fr++ []))) G cs).next (by omega) (by omega);have cR:Hid (∀W cs,DO w W (bts (varL fr++ [])) G cs->Calls Tryz.prog 190 #[.pointer (some ⟨w.heap.size+1,0,none⟩)] W fun e w'=>e= .returned (.int .i64 (fr:Nat))/\DO w w' (bts []) G cs):=fun W cs hW=>hW.next hfl (by simp);have cU:Hid (∀W,Calls Tryz.prog 191 #[.int .u64 (fr:Nat)] W fun e w'=>e= .returned (.int .i64 o.result)/\W=w'):=fun W=>by have h1:=X5x fr W (by omega);rwa [hfu]at h1
   have f7:=HD9.out.row.soft 7;have g7:W9.cell? ⟨G,7,none⟩=some (.bool false):=HD9.out.row.cell 7;have HO:Hid (o.cells= [.int .i64 o.id,.int .i64 o.proc,.int .i64 o.object,.int .i64 o.kind,.int .i64 o.method,.int .i64 o.arg,.int .i64 o.second,.bool true,.int .i64 o.result,.int .i64 o.invoke,.int .i64 o.ret]):=by unfold Hid OpD.cells;rw[hd]
   rw[hd]at cC;clear h8 hfr hd hre;go_upto_region 5 with fail;have HDA:=hD (HD9.out.set 7 (.bool true));generalize hWA:World.setCell _ _ _=WA at *;clear hWA r0 r1 f7 g7;have hs1:o.invoke+(m:Int)=o.ret:=by omega
   have hs2:IntKind.i64.wrap o.ret=o.ret:=by rw[IntKind.wrap_i64];omega
   refine wp_region_held_drew (S:=fun W=>W.cell? ⟨G,9,none⟩=some (.int .i64 o.invoke)) (by kernel_rfl) ((HDA.out.ext (by exact Xt)).row.cell 9) (fun hHeld=> ?_);refine' tk 0 ?_;refine' tk 1 ?_;refine' tk 2 ?_;refine stp 3 (fun K hK=> ?_);go_simp
   (with_reducible refine(cM.out _ _ (HDA.out.ext ?_)).mono ?_)
   ·exact Xt
   rintro e w10 ⟨rfl,hdb⟩;have HDB:=hD hdb;clear hdb
   (try dsimp only)
   (try go_simp)
   refine hK.out _ _ ((HDB.out.ext (by exact Xt)).row.cell 9) (fun hHeld=> ?_);clear hK K;refine pt ?_;refine' tk 4 ?_;refine' tk 5 ?_;have g10:w10.cell? ⟨G,10,none⟩=some (.int .i64 0):=HDB.out.row.cell 10;have f10:w10.frozen? ⟨G,10,none⟩=false:=HDB.out.row.soft 10;have g10':w10.drew.cell? ⟨G,10,none⟩=some (.int .i64 0):=HDB.out.row.cell 10;have f10':w10.drew.frozen? ⟨G,10,none⟩=false:=HDB.out.row.soft 10;refine stp 6 (fun K hK=> ?_);go_simp;refine hK.out _ _ ((HDB.out.set 10 _).row.cell 9) (fun hHeld=> ?_);clear hK K;refine pt ?_;refine wpAnyH_done (by kernel_rfl) ?_ _;have HDC:=hD (HDB.out.set 10 (.int .i64 o.ret));generalize hWC:World.setCell _ _ _=w11 at *;clear hWC g10 f10 g10' f10' hHeld;have hfw:IntKind.u64.wrap (fr:Int)=fr:=by rw[IntKind.wrap_u64];omega
   go_upto_region 7 with (first
    | (go_at_call 190;(with_reducible refine(cR.out _ _ HDC.out).mono ?_);clear cR;rintro e w12 ⟨rfl,hdd⟩;have HDD:=hD hdd;have g8:w12.cell? ⟨G,8,none⟩=some (.int .i64 0):=hdd.row.cell 8;have f8:w12.frozen? ⟨G,8,none⟩=false:=hdd.row.soft 8;clear hdd)
    | (go_at_call 191;(with_reducible refine(cU.out _).mono ?_);clear cU;rintro e w13 ⟨rfl,rfl⟩))
   have HDE:=hD (HDD.out.set 8 (.int .i64 o.result));generalize hWE:World.setCell _ _ _=w14 at *;clear hWE g8 f8;have hE1:(bts ([]:List UInt8)).toList.isEmpty=true:=by rw[ByteArray.toList_eq];rfl
   have hE2:(bts ([]:List UInt8)).toList= []:=by rw[ByteArray.toList_eq];rfl
   obtain⟨r0,r1⟩:=HDE.out.read;obtain⟨g0,g1,g2,g3,g4,g5,g6,g7,g8,g9,g10⟩:=Z1l (show Row1 w14 G 32 [.int .i64 o.id,.int .i64 o.proc,.int .i64 o.object,.int .i64 o.kind,.int .i64 o.method,.int .i64 o.arg,.int .i64 o.second,.bool true,.int .i64 o.result,.int .i64 o.invoke,.int .i64 o.ret]from HDE.out.row);go_upto_region 9 with (go_at_call 171;(with_reducible refine(cC.out _).mono ?_);clear cC;rintro e w10 ⟨rfl,hb10⟩;have HB10:=hD hb10;clear hb10);have HD10:=hD (HDE.out.ext HB10.out);clear g0 g1 g2 g3 g4 g5 g6 g7 g8 g9 g10 r0 r1;obtain⟨g0,g1,g2,g3,g4,g5,g6,g7,g8,g9,g10⟩:=Z1l (show Row1 _ G 32 [.int .i64 o.id,.int .i64 o.proc,.int .i64 o.object,.int .i64 o.kind,.int .i64 o.method,.int .i64 o.arg,.int .i64 o.second,.bool true,.int .i64 o.result,.int .i64 o.invoke,.int .i64 o.ret]from HD10.out.row);obtain⟨a0,a1,a2,a3,a4,a5,a6,a7,a8,a9,a10⟩:=Z1l HD10.out.dw.res;obtain⟨f0,f1,f2,f3,f4,f5,f6,f7,f8,f9,f10⟩:=Z3q HD10.out.dw.res;go_wp2_with fail;refine bodyPost_ret (X3t rfl _ _ w.heap.size o _ rfl rfl ?_) rfl ⟨rfl,?_⟩
   ·rw[HO.out];exact Z5o HD10.out.dw.res _ _ _ _ _ _ _ _ _ _ _
   ·exact Y4m HD10.out.dw.ext (aF _) _ _ _ _ _ _ _ _ _ _ _
theorem U0x(s:List UInt8):(bts s).extract 0 (min (bts s).size 256)=bts (s.take 256):=by rw[ByteArray.ext_iff,ByteArray.data_extract,Z0i];simp only[bts];apply Array.ext';simp[Nat.min_comm]
theorem V8k(s:List UInt8):(bts s).extract (min (bts s).size 256) (bts s).size=bts (s.drop 256):=by
 rw[ByteArray.ext_iff,ByteArray.data_extract,Z0i];simp only[bts];apply Array.ext';simp;by_cases h:s.length<=256
 ·rw[Nat.min_eq_left h,List.drop_eq_nil_of_le (aF _),List.drop_eq_nil_of_le h];simp
 ·rw[Nat.min_eq_right (by omega),List.take_of_length_le (by simp)]
def RPg(p:Nat×ByteArray)(cs:List Value):Prop:=cs=encP p
def Y5f(l:List (Nat×ByteArray))(k:Nat):List UInt8:=Z0g l.length 4++(l.take k).flatMap (fun p=>Z0g p.1 4)
def V0w(l:List (Nat×ByteArray)):List UInt8:=Y5f l l.length
def Y4r(s:List UInt8)(k:Nat):List ByteArray:=(List.range k).map fun i=>padB (bts ((s.drop (256*i)).take 256))
theorem X8b(s:List UInt8)(k:Nat):Y4r s (k+1)=Y4r s k++ [padB (bts ((s.drop (256*k)).take 256))]:=by simp[Y4r,List.range_succ]
theorem Y4q(s:List UInt8)(k:Nat):(Y4r s k).length=k:=by simp[Y4r]
def Z2h(l:List (Nat×ByteArray)):List ByteArray:=Y4r (V0w l) (hdsN l.length)++l.map (fun p=>padB p.2)
theorem Y3q(l:List (Nat×ByteArray)):(Z2h l).length=hdsN l.length+l.length:=by simp[Z2h,Y4q]
theorem V0v(l:List (Nat×ByteArray))(k:Nat)(h:k<=l.length):(Y5f l k).length=4+4*k:=by
 have e:∀m:List (Nat×ByteArray),(m.flatMap (fun p=>Z0g p.1 4)).length=4*m.length:=by
  intro m
  induction m with
  | nil=>rfl
  | cons p r ih=>rw[aI,aA,ih,Z0l,List.length_cons];omega
 unfold Y5f;rw[aA,Z0l,e,aD];omega
theorem X7a(l:List (Nat×ByteArray))(k:Nat)(h:k<l.length):Y5f l (k+1)=Y5f l k++Z0g l[k].1 4:=by unfold Y5f;rw[List.take_succ_eq_append_getElem h,aH];simp
def BP(w W:World)(b:Nat)(l:List UInt8):Prop:=∃F:Nat->Prop,BldAt W b F l/\(∀i,F i->w.heap.size<=i)/\Ext w W
theorem BP.ext{w W W':World}{b:Nat}{l:List UInt8}(h:BP w W b l)(hx:Ext W W'):BP w W' b l:=by obtain⟨F,h1,h2,h3⟩:=h;exact⟨F,h1.ext hx,h2,h3.trans hx⟩
theorem X5j{w W:World}{b:Nat}{l:List UInt8}(s:ByteArray)(h:BP w W b l)(hl:l.length+s.size<=1000000000):
  Calls Tryz.prog 172 #[.pointer (some ⟨b,0,none⟩),.string s] W fun e w'=>e= .returned (.tuple #[.int .i64 s.size,.nilIface])/\BP w w' b (l++s.data.toList):=by
 obtain⟨F,h1,h2,h3⟩:=h;refine(Z6k s h1 hl).mono ?_;rintro e w' ⟨rfl,F',q1,q2⟩;refine⟨rfl,F',q1,fun i q=> ?_,((Only.of h3).trans' q2.only).toExt h2⟩;rcases q2.new i q with q | q
 ·exact h2 i q
 ·exact Nat.le_trans h3.size q
theorem U1t{w W:World}{b:Nat}{l:List UInt8}(h:BP w W b l)(h0:l≠ []):
  Calls Tryz.prog 175 #[.pointer (some ⟨b,0,none⟩)] W fun e w'=>e= .returned (.string (bts l))/\Ext w w':=by
 obtain⟨F,h1,h2,h3⟩:=h;refine(Z9d h1 h0).mono ?_;rintro e w' ⟨rfl,q2⟩;exact⟨rfl,((Only.of h3).trans' q2).toExt h2⟩
theorem V5z(V:Value)(l:List (Nat×ByteArray))(w:World)(hs:Sl w 2 RPg V l)(hl:l.length<=1024)(hp:∀p∈l,p.1<2048/\p.2.size<=256):
  Calls Tryz.prog 232 #[V] w fun e w'=>(∃v,e= .returned (.tuple #[v,.int .i64 0])/\OwnL w' w.heap.size 9 1 encS v (Z2h l))/\Ext w w':=by
 obtain⟨A,c,rfl⟩:=hs.form;obtain⟨_,hc1,hc2,hA⟩:=hs.at;have HA:=hD hA;have HP:=hD hp;obtain⟨n,hn⟩:∃n,l.length=n:=⟨_,rfl⟩;have HN:=hD hn;have q0:decide ((1024:Int)<(n:Int))=false:=by rw[decide_eq_false];omega
 have u0:IntKind.u64.wrap (n:Int)=(n:Int):=by rw[IntKind.wrap_u64];omega
 have cF:=Z5b n 4 (by omega) (by omega) (w.alloc (.cells #[.pointer none,.slice none 0 0] 248));have HB0:Hid (BP w (w.alloc (.cells #[.pointer none,.slice none 0 0] 248)) w.heap.size []):=⟨fun i=>i=w.heap.size,BldAt.made w,fun i q=>by omega,by exact Xt⟩;have H0:Hid (Y5f l 0= []++(bts (Z0g n 4)).data.toList):=by unfold Hid Y5f;rw[<-hn];simp[bts]
 have HLEN:=hD (fun k=>V0v l k);have HS:=hD (fun k=>X7a l k);have hn1:n<=1024:=by omega
 rw[hn]at hc1 ⊢;clear hs hA hp hn hl;go_enter Tryz.func232,Tryz.ntmps232;go_wp2_with (first
  | (go_at_call 203;refine cF.mono ?_;clear cF;rintro e w1 ⟨rfl,hb1⟩;have cS:=X5j (bts (Z0g n 4)) (HB0.out.ext hb1) (by rw[Z0i,Z0l];simp);clear hb1)
  | (go_at_call 172;refine cS.mono ?_;clear cS;rintro e w2 ⟨rfl,hb2⟩;have HB2:=hD hb2;clear hb2))
 rw[<-H0.out]at HB2
 go_loopw [22] (fun i wr=>∃k:Nat,k<=n/\i= .int .i64 k/\BP w wr w.heap.size (Y5f l k)) (fun i _=>n-(intOf i).toNat)
 case atStart=>exact⟨0,by omega,rfl,HB2.out⟩
 case round=>
  obtain⟨k,hk,rfl,hb⟩:=hrel;have HB:=hD hb;have hx:Ext w wr:=let ⟨_,_,_,h⟩:=hb;h;have HX:=hD hx;clear hb hx;by_cases hlt:k<n
  ·have hkl:k<l.length:=by rw[HN.out];exact hlt
   have hd:decide ((k:Int)<(n:Int))=true:=by simp;omega
   have HT:=hD (HS.out k hkl);have HL:=hD (HLEN.out k (by omega));have hpk:=HP.out l[k] (List.getElem_mem hkl);obtain⟨b,off,rfl,hbl,hx⟩:=HA.out (by omega);obtain⟨cs,rfl,_,hcs⟩:=hx k hkl;have e0:wr.cell? ⟨b,off+k*2,none⟩=some (.int .i64 l[k].1):=(HX.out.cell (p:=⟨b,off+k*2,none⟩) hbl).trans (hcs 0 _ rfl);have e1:wr.cell? ⟨b,off+k*2+1,none⟩=some (.string l[k].2):=(HX.out.cell (p:=⟨b,off+k*2+1,none⟩) hbl).trans (hcs 1 _ rfl);generalize l[k]=x at *;obtain⟨xa,xd⟩:=x;dsimp only at *;clear hx hcs;obtain⟨hx1,hx2⟩:=hpk;have hbw:=aE hbl HX.out.size;have q1:decide ((xa:Int)<0)=false:=by rw[decide_eq_false];omega
   have q2:decide ((2048:Int)<=(xa:Int))=false:=by rw[decide_eq_false];omega
   have q3:decide ((256:Int)<(xd.size:Int))=false:=by rw[decide_eq_false];omega
   have u1:IntKind.u64.wrap (xa:Int)=(xa:Int):=by rw[IntKind.wrap_u64];omega
   have HR:Hid (Ext wr (wr.alloc (.cells #[.int .i64 xa,.string xd] 237))/\Row1 (wr.alloc (.cells #[.int .i64 xa,.string xd] 237)) wr.heap.size 237 [.int .i64 xa,.string xd]):=⟨by exact Xt,Row1.made wr _ _⟩;have cF:=Z5b xa 4 (by omega) (by omega) (wr.alloc (.cells #[.int .i64 xa,.string xd] 237));go_wp2_with (first
    | (go_at_call 203;refine cF.mono ?_;clear cF;rintro e w1 ⟨rfl,hb1⟩;have cS:=X5j (bts (Z0g xa 4)) (HB.out.ext (HR.out.1.trans hb1)) (by rw[Z0i,Z0l,HL.out];omega);clear hb1)
    | (go_at_call 172;refine cS.mono ?_;clear cS;rintro e w2 ⟨rfl,hb2⟩;have HB3:=hD hb2;clear hb2))
   go_roundw
   case measure=>simp[intOf];omega
   case rel=>exact⟨k+1,by omega,by go_num,by rw[HT.out];exact HB3.out⟩
  ·obtain rfl:k=n:=by omega
   have hd:decide ((k:Int)<(k:Int))=false:=by simp
   have HPE:Hid (Y5f l k=V0w l):=by unfold Hid V0w;rw[HN.out]
   have cT:=U1t HB.out (by intro e;have:=HLEN.out k (by rw[HN.out];omega);rw[e]at this;simp at this;omega);rw[HPE.out]at cT;have HHL:Hid ((V0w l).length=4+4*k):=by unfold Hid;rw[<-HPE.out];exact HLEN.out k (by rw[HN.out];omega)
   have HG:Hid (∀W,Calls Tryz.prog 165 #[.int .i64 k] W fun e w'=>e= .returned (.int .i64 (hdsN k))/\W=w'):=fun W=>Y6d k W (by omega);obtain⟨h,hh⟩:∃h,hdsN k=h:=⟨_,rfl⟩;have HH:=hD hh;rw[hh]at HG;have hh1:h<=1000:=by unfold hdsN at hh;omega
   obtain⟨hd1,hhd⟩:∃hd1,V0w l=hd1:=⟨_,rfl⟩;have HHD:=hD hhd;rw[hhd]at cT HHL;clear hh hhd;go_wp2_with (first
    | (go_at_call 175;refine cT.mono ?_;clear cT;rintro e w3 ⟨rfl,hb3⟩;have HX3:=hD hb3;clear hb3)
    | (go_at_call 165;refine(HG.out _).mono ?_;rintro e w4 ⟨rfl,hw4⟩;subst hw4))
   go_loopw [50,7,8] (fun i s v wr=>∃j:Nat,j<=h/\i= .int .i64 j/\s= .string (bts (hd1.drop (256*j)))/\Ext w wr/\OwnL wr w.heap.size 9 1 encS v (Y4r hd1 j)) (fun i _ _ _=>h-(intOf i).toNat)
   case atStart=>exact⟨0,by omega,rfl,rfl,HX3.out,OwnL.nil _ _ _ _ _⟩
   case round=>
    obtain⟨j,hj,rfl,rfl,hb,hown⟩:=hrel;have HX:=hD hb;have HO:=hD hown;have hzr:=hb.size;clear hb hown;by_cases hjh:j<h
    ·have hd2:decide ((j:Int)<(h:Int))=true:=by simp;omega
     have HCS:=hD (X8b hd1 j);have HCL:=hD (Y4q hd1 j);obtain⟨x,hx⟩:∃x,bts (hd1.drop (256*j))=x:=⟨_,rfl⟩;have HMI:(min (x.size:Int) 256).toNat=min x.size 256:=by omega
     have HM1:Hid (padB (x.extract 0 (min (x.size:Int) 256).toNat)=padB (bts ((hd1.drop (256*j)).take 256))/\(x.extract 0 (min (x.size:Int) 256).toNat).size<=256):=by unfold Hid;rw[HMI,<-hx,U0x];exact⟨rfl,by rw[Z0i];simp;omega⟩
     have HM2:Hid (x.extract (min (x.size:Int) 256).toNat x.size=bts (hd1.drop (256*(j+1)))):=by
      unfold Hid;rw[HMI,<-hx,V8k,List.drop_drop]
      congr 2
     have hx64:x.size<=1000000:=by rw[<-hx,Z0i,aJ,HHL.out];omega
     clear HMI;rw[hx];generalize Y4r hd1 j=out at *;obtain⟨vA,vc,rfl⟩:=HO.out.form;rw[HCL.out]at HO ⊢;clear hx;have cF:=X0n (x.extract 0 (min (x.size:Int) 256).toNat) wr HM1.out.2;go_wp2_with (first
      | (go_at_call 284;refine cF.mono ?_;clear cF;rintro e w5 ⟨rfl,hb5⟩;rw[HM1.out.1];have HX5:=hD (HX.out.trans hb5);have HO5:=hD (HO.out.ext hb5);have hz5:=HX5.out.size;clear hb5)
      | (at_builtin;refine Z2a elStr Z0d Z1n rfl (.tmp 55) (.tmp 60) rfl _ out rfl (HO5.out.ext (by exact Xt)) (by simp;omega) _ 1 _ rfl (Row1.made _ _ (encS _)) (by rw[HCL.out];omega) (by decide) ?_;intro pA pc wp hp hgp;have HXP:=hD ((HO5.out.ext (by exact Xt)).grown (a:=w) (by exact Xx (HX5.out)) hgp (by simp));rw[aA,aK]at hp;have HPP:=hD hp;clear hp hgp))
     go_roundw
     case measure=>simp[intOf];omega
     case rel=>exact⟨j+1,by omega,by go_num,by rw[HM2.out],HXP.out,by rw[HCS.out];exact HPP.out⟩
    ·obtain rfl:j=h:=by omega
     have hd2:decide ((j:Int)<(j:Int))=false:=by simp
     have HCL:=hD (Y4q hd1 j);obtain⟨x,hx⟩:∃x,bts (hd1.drop (256*j))=x:=⟨_,rfl⟩;rw[hx];have HCC:Hid (∀i,i<=k->Z2h l=Y4r hd1 j++l.map (fun p=>padB p.2)):=fun i _=>by unfold Z2h;rw[HHD.out,HN.out,HH.out]
     generalize Y4r hd1 j=out at *;obtain⟨vA,vc,rfl⟩:=HO.out.form;rw[HCL.out]at HO ⊢;clear hx;go_wp2_with fail
     go_loopw [68,8] (fun i v wr=>∃m:Nat,m<=k/\i= .int .i64 m/\Ext w wr/\OwnL wr w.heap.size 9 1 encS v (out++(l.take m).map (fun p=>padB p.2))) (fun i _ _=>k-(intOf i).toNat)
     case atStart=>exact⟨0,by omega,rfl,HX.out,by rw[List.take_zero,List.map_nil,List.append_nil];exact HO.out⟩
     case round=>
      obtain⟨m,hm,rfl,hb,hown⟩:=hrel;have HX6:=hD hb;have HO6:=hD hown;have hz6:=hb.size;have HML:Hid ((out++(l.take m).map (fun p=>padB p.2)).length=j+m):=by unfold Hid;rw[aA,HCL.out,List.length_map,aD,HN.out];omega
      clear hb hown;by_cases hlt:m<k
      ·have hkl:m<l.length:=by rw[HN.out];exact hlt
       have hd3:decide ((m:Int)<(k:Int))=true:=by simp;omega
       have HST:Hid (out++(l.take (m+1)).map (fun p=>padB p.2)=(out++(l.take m).map (fun p=>padB p.2))++ [padB l[m].2]):=by unfold Hid;rw[List.take_succ_eq_append_getElem hkl,List.map_append,aG];rfl
       have hpk:=HP.out l[m] (List.getElem_mem hkl);obtain⟨b,off,rfl,hbl,hx⟩:=HA.out (by omega);obtain⟨cs,rfl,_,hcs⟩:=hx m hkl;have e0:wr.cell? ⟨b,off+m*2,none⟩=some (.int .i64 l[m].1):=(HX6.out.cell (p:=⟨b,off+m*2,none⟩) hbl).trans (hcs 0 _ rfl);have e1:wr.cell? ⟨b,off+m*2+1,none⟩=some (.string l[m].2):=(HX6.out.cell (p:=⟨b,off+m*2+1,none⟩) hbl).trans (hcs 1 _ rfl);generalize l[m]=x at *;obtain⟨xa,xd⟩:=x;dsimp only at *;generalize out++(l.take m).map (fun p=>padB p.2)=out2 at *;obtain⟨vA,vc,rfl⟩:=HO6.out.form;rw[HML.out]at HO6 ⊢;clear hx hcs;obtain⟨hx1,hx2⟩:=hpk;have hbw:=aE hbl HX6.out.size;have HR:Hid (Ext wr (wr.alloc (.cells #[.int .i64 xa,.string xd] 237))):=by exact Xt
       have cF:=X0n xd (wr.alloc (.cells #[.int .i64 xa,.string xd] 237)) hx2;go_wp2_with (first
        | (go_at_call 284;refine cF.mono ?_;clear cF;rintro e w5 ⟨rfl,hb5⟩;have HX5:=hD (HX6.out.trans (HR.out.trans hb5));have HO5:=hD (HO6.out.ext (HR.out.trans hb5));have hz5:=HX5.out.size;clear hb5)
        | (at_builtin;refine Z2a elStr Z0d Z1n rfl (.tmp 72) (.tmp 76) rfl _ out2 rfl (HO5.out.ext (by exact Xt)) (by simp;omega) _ 1 _ rfl (Row1.made _ _ (encS _)) (by rw[HML.out];omega) (by decide) ?_;intro pA pc wp hp hgp;have HXP:=hD ((HO5.out.ext (by exact Xt)).grown (a:=w) (by exact Xx (HX5.out)) hgp (by simp));rw[aA,aK]at hp;have HPP:=hD hp;clear hp hgp))
       go_roundw
       case measure=>simp[intOf];omega
       case rel=>exact⟨m+1,by omega,by go_num,HXP.out,by rw[HST.out];exact HPP.out⟩
      ·obtain rfl:m=k:=by omega
       have hd3:decide ((m:Int)<(m:Int))=false:=by simp
       have HE:Hid (Z2h l=out++(l.take m).map (fun p=>padB p.2)):=by unfold Hid;rw[HCC.out 0 (by omega),<-HN.out,List.take_length]
       generalize out++(l.take m).map (fun p=>padB p.2)=res at *;obtain⟨vA,vc,rfl⟩:=HO6.out.form;rw[HML.out]at HO6 ⊢;go_wp2_with fail
       go_ret2
       exact⟨⟨_,rfl,by rw[HE.out];exact HO6.out⟩,HX6.out⟩
end Go.Proofs.YtmiolpfanlpfnaaGreat
