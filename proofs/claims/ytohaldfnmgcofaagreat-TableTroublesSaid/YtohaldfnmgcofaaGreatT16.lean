/- strings.Builder: WriteString, WriteByte, String, Len. Conditions: a builder in memory, lengths. -/
import Derived.Test.YtohaldfnmgcofaaGreatT07
import Derived.Shelf.Strings.Builder1
import Derived.Shelf.Small.Bits
import Derived.Shelf.Strings.BuilderF
import Derived.Shelf.Strings.BuilderK
import Derived.Shelf.Strconv.Itoa0
import Derived.Test.YtohaldfnmgcofaaGreatT04
set_option maxRecDepth 100000
set_option maxHeartbeats 4000000
set_option linter.unusedSimpArgs false
set_option linter.unusedVariables false
namespace Go.Proofs.YtohaldfnmgcofaaGreat
open Go.RowKit
theorem Tryz.sizeBuilder:(Tryz.prog.info? 108).map (·.size)=some 2:=by kernel_rfl
theorem Tryz.liesBuilder:liesAt Tryz.prog Tryz.prog.depth 108 (2/Tryz.prog.cellsOf 108) 0 108 1=true:=by kernel_rfl
theorem Tryz.infoU8:(Tryz.prog.info? 5).map (fun i=>(i.zero,i.size,i.bytes))=some (some (.int .u8 0),1,1):=by kernel_rfl
theorem Y5p(b:Nat)(w:World)(h0:w.cell? ⟨b,0,none⟩=some (tp b)):
  cQ 108 #[tp b] w fun e w'=>e= .returned (.tuple #[])/\w'=w:=by
 obtain⟨j,hj,_⟩:=Option.map_eq_some_iff.1 Tryz.sizeBuilder;go_enter Tryz.func108,Tryz.ntmps108;go_wp2;rw[Lib.run_neq_ptr_same w _ Tryz.underlying105 hj];go_wp2
 go_end0
 exact⟨rfl,rfl⟩
theorem Y5c(b:Nat)(w:World)(h0:w.cell? ⟨b,0,none⟩=some (.pointer none))(hsh:w.shape? b=some (108,2))(hfz:w.frozen? ⟨b,0,none⟩=false):
  cQ 108 #[tp b] w fun e w'=>e= .returned (.tuple #[])/\w'=w.setCell ⟨b,0,none⟩ (tp b):=by
 obtain⟨j,hj,hjs⟩:=Option.map_eq_some_iff.1 Tryz.sizeBuilder;go_enter Tryz.func108,Tryz.ntmps108;go_wp2_with fail;rw[Lib.run_to_unsafe w ⟨b,0,none⟩ Tryz.underlying105 Tryz.underlying249 hj (by rw[hjs];decide) hsh (Nat.zero_lt_succ 1)];simp only[Result.andThen];rw[Oper.upon_value];go_wp2_with fail;rw[run_callFunc_extern Tryz.func156 (by kernel_rfl) (by kernel_rfl) (by kernel_rfl) (e:=Extern.AbiNoEscape.same) (by kernel_rfl)];rw[Lib.run_noEscape];simp only[Result.andThen];rw[Oper.upon_value];go_wp2_with fail;rw[Lib.run_from_unsafe w ⟨b,0,none⟩ Tryz.underlying249 Tryz.underlying105 hj hsh Tryz.liesBuilder];simp only[Result.andThen];rw[Oper.upon_value];go_wp2_with fail
 go_end0
 exact⟨rfl,rfl⟩
theorem Y7p(s:ByteArray):Lib.strCells s=s.data.toList.flatMap encU:=by
 unfold Lib.strCells;rw[List.flatMap_def]
 induction s.data.toList with
 | nil=>rfl
 | cons c r ih=>simp[encU]at ih ⊢;exact ih
theorem Y5r(l:List UInt8):Lib.byteCells l=l.flatMap encU:=by
 unfold Lib.byteCells
 induction l with
 | nil=>rfl
 | cons c r ih=>simp[encU]at ih ⊢;exact ih
section
variable {P:Program} (w:World)
theorem Y8y(base:Nat)(t u ty e:TypeId)(i:TypeInfo)(ht:P.underlying t=some (.slice e))(hu:P.underlying u=some .string)(hi:P.info? e=some i)(hz:i.zero=some (.int .u8 0))
 (hsize:i.size=1)(hby:i.bytes=1)(v:Value)(n:Nat)(xs:List Value)(hown:w.ownsRow base e 1 v n xs)(s:ByteArray)
 (h63:n+s.size<=maxLen)(hbytes:n+s.size<=140737488355328)(hbase:base<=w.heap.size):
  ∃v' w',(Builtin.append_ #[t,u] ty #[v,.string s]).run P w= .ok v' w'/\w'.ownsRow base e 1 v' (n+s.size) (xs++Lib.strCells s)/\w.grownBy w' v.ownBlock/\(∀k,v'.ownBlock=some k->v.ownBlock=some k\/w.heap.size<=k):=by
 obtain⟨v',w',hr,h2,h3,h4⟩:=Lib.run_append_own_string (P:=P) w base t u ty e i ht hu hi hz hsize hby v n xs hown s h63 hbytes hbase;refine⟨v',w',hr,h2,h3,fun k hk=> ?_⟩;have hxl:xs.length=n:=by simpa using hown.1
 have hsmall:n+s.size<=9223372036854775807:=by simp only[maxLen]at h63;omega
 rcases hown.2 with ⟨rfl,rfl⟩ | ⟨g,cap,cur,rfl,hbg,hg,hnc,hcm,hcs,htake⟩
 ·by_cases hm:s.size=0
  ·have:=h4.2 ⟨rfl,hm⟩;subst this;exact .inl hk
  ·have hr2:=run_append_nil_string (P:=P) w t u ty e i (.int .u8 0) ht hu hi hz s (by omega) (by omega) (by rw[hby];omega);rw[hr]at hr2;injection hr2 with q1 q2;subst q1;simp only[Value.ownBlock,Option.some.injEq]at hk;exact .inr (by omega)
 ·by_cases hroom:n+s.size<=cap
  ·have hcs':cur.size=cap:=by simpa using hcs
   have hr2:=Lib.run_append_room_string (P:=P) w t u ty e i ht hu hi hsize g n cap cur hg s hroom (by omega);rw[hr]at hr2;injection hr2 with q1 q2;subst q1;exact .inl hk
  ·have holds:∀j u,xs[j]? =some u->w.cell? ((⟨g,0,none⟩:Addr).add j)=some u:=hown.cells (g:=g) rfl;have hr2:=Lib.run_append_grow_string (P:=P) w t u ty e i (.int .u8 0) ht hu hi hz ⟨g,0,none⟩ n cap xs (by rw[hsize];simpa using hxl) holds s (by omega) (by omega) (by rw[hby];exact growslice_fits (by omega) (by omega));rw[hr]at hr2;injection hr2 with q1 q2;subst q1;simp only[Value.ownBlock,Option.some.injEq]at hk;exact .inr (by omega)
end
theorem Y9c{ops:Array Oper}{rest:List Oper}{o:Oper}{a:Act}{w:World}{Q:Exit->Act->World->Prop}(hgd:o.guard=none)(s x:Operand)
 (ho:o.op= .call { callee:= .builtin .append,args:=#[s,x],argTypes:=#[106,9]})
 {base:Nat}(v:Value)(l:List UInt8)(hs:a.eval s=v)(hown:OwnB w base v l)(hbase:base<=w.heap.size)(d:ByteArray)(hx:a.eval x= .string d)(h63:l.length+d.size<=1000000000)
 (h:∀A' c' n' w',n'=(l++d.data.toList).length->OwnB w' base (.slice A' n' c') (l++d.data.toList)->w.grownBy w' v.ownBlock->(∀k,(Value.slice A' n' c').ownBlock=some k->v.ownBlock=some k\/w.heap.size<=k)->wpList Tryz.prog ops Q rest (a.put o.dst (.slice A' n' c')) w'):wpList Tryz.prog ops Q (o::rest) a w:=by
 refine wpList_plain hgd fun K hK=> ?_;obtain⟨i0,hi,hz0,hz1,hz2⟩:=info_parts Tryz.infoU8;have hown':w.ownsRow base 5 1 v l.length (l.flatMap encU):=hown;obtain⟨v',w',hr,h2,h3,h4⟩:=Y8y (P:=Tryz.prog) w base 106 9 o.type 5 i0 Tryz.underlying106 Tryz.underlying9 hi hz0 hz1 hz2 v l.length (l.flatMap encU) hown' d (by unfold maxLen;omega) (by omega) hbase;have hdl:d.data.toList.length=d.size:=by rw[Array.length_toList];rfl
 have h2':OwnB w' base v' (l++d.data.toList):=by unfold OwnB OwnL;rw[aH,<-Y7p,aA,hdl];exact h2
 obtain⟨A',c',rfl⟩:=OwnL.form h2';unfold Oper.wp execOp;simp only[ho,resolve,invoke,builtin,Sem.run_bind,Sem.run_pure,Result.andThen_ok,List.map_toArray,List.map_cons,List.map_nil,hs,hx,hr];exact hK _ _ (h A' c' _ w' rfl h2' h3 h4)
structure BldAs (w:World) (b:Nat) (F:Nat->Prop) (l:List UInt8) (p v:Value):Prop where
 row:Row1 w b 108 [p,v]
 ptr:p= .pointer none\/p= tp b
 own:OwnB w 0 v l
 fb:F b
 fv:∀k,v.ownBlock=some k->F k
def BldAt(w:World)(b:Nat)(F:Nat->Prop)(l:List UInt8):Prop:=∃p v,BldAs w b F l p v
section
variable {w w':World} {b:Nat} {F F' G:Nat->Prop} {l:List UInt8} {p v:Value}
theorem BldAs.ne(h:BldAs w b F l p v):v.ownBlock≠some b:=h.own.apartRow h.row (by decide)
theorem BldAs.only(h:BldAs w b F l p v)(hb:Only G w w')(hG:∀i,F i->¬G i):BldAs w' b F l p v:=⟨hb.row h.row (hG b h.fb),h.ptr,h.own.only hb (fun k hk=>hG k (h.fv k hk)),h.fb,h.fv⟩
theorem BldAt.only(h:BldAt w b F l)(hb:Only G w w')(hG:∀i,F i->¬G i):BldAt w' b F l:=let ⟨_,_,h⟩:=h;⟨_,_,h.only hb hG⟩
theorem BldAt.ext(h:BldAt w b F l)(hb:Ext w w'):BldAt w' b F l:=h.only (G:=fun _=>False) (Only.of hb) (fun _ _ q=>q)
theorem BldAt.made(w:World):BldAt (w.alloc (.cells #[.pointer none,.slice none 0 0] 108)) w.heap.size (fun i=>i=w.heap.size) []:=
 ⟨_,_,Row1.made w _ _,.inl rfl,OwnL.nil _ _ _ _ _,rfl,fun k hk=>by cases hk⟩
end
theorem Y6x{w:World}{b:Nat}{F:Nat->Prop}{l:List UInt8}(h:BldAt w b F l):
  cQ 108 #[tp b] w fun e w'=>e= .returned (.tuple #[])/\(∃v,BldAs w' b F l (tp b) v)/\Only (fun i=>i=b) w w':=by
 obtain⟨p,v,h⟩:=h;rcases h.ptr with rfl | rfl
 ·refine(Y5c b w (h.row.cell 0) (by unfold World.shape?;rw[show w.heap[b]? =_ from h.row];rfl) (h.row.soft 0)).mono ?_;rintro e w' ⟨rfl,rfl⟩;have ho:Only (fun i=>i=b) w (w.setCell ⟨b,0,none⟩ (tp b)):=Only.setCell (F:=fun i=>i=b) (p:=⟨b,0,none⟩) Only.refl (.inl rfl) _;exact⟨rfl,⟨v,h.row.set 0 _,.inr rfl,h.own.only ho (fun k hk q=>h.ne (by rw[hk,q])),h.fb,h.fv⟩,ho⟩
 ·refine(Y5p b w (h.row.cell 0)).mono ?_;rintro e w' ⟨rfl,rfl⟩;exact⟨rfl,⟨v,h⟩,Only.refl⟩
theorem Y6z{w0 w1 W w2:World}{b:Nat}{F:Nat->Prop}{l l':List UInt8}{p v v':Value}(H:BldAs w1 b F l p v)(hp:p= tp b)(h01:Only (fun i=>i=b) w0 w1)(hW:Ext w1 W)(hown:OwnB w2 0 v' l')(hgr:W.grownBy w2 v.ownBlock)
 (hwh:∀k,v'.ownBlock=some k->v.ownBlock=some k\/W.heap.size<=k):
  ∃F',BldAt (w2.setCell ⟨b,1,none⟩ v') b F' l'/\Keeps F F' w0 (w2.setCell ⟨b,1,none⟩ v'):=by
 subst hp;have hR:Row1 W b 108 [tp b,v]:=H.row.ext hW H.row.lt;have hR2:=hR.grown hgr (fun e=>H.ne e.symm);have hvb:v'.ownBlock≠some b:=hown.apartRow hR2 (by decide);have ho:Only (fun i=>i=b) w2 (w2.setCell ⟨b,1,none⟩ v'):=Only.setCell (F:=fun i=>i=b) (p:=⟨b,1,none⟩) Only.refl (.inl rfl) v';refine⟨fun i=>F i\/v'.ownBlock=some i,⟨_,v',hR2.set 1 v',.inr rfl,hown.only ho (fun k hk q=>hvb (by rw[hk,q])),.inl H.fb,fun k hk=> .inr hk⟩,⟨?_,fun i q=> ?_⟩⟩
 ·refine(((h01.mono (fun i q=> .inl (by rw[q];exact H.fb))).ext hW).trans' (Only.grown hgr |>.mono (fun i q=> .inl (H.fv i q)))).trans' (ho.mono (fun i q=> .inl (by rw[q];exact H.fb)))
 ·rcases q with q | q
  ·exact .inl q
  ·rcases hwh i q with q | q
   ·exact .inl (H.fv i q)
   ·exact .inr (Nat.le_trans h01.size (Nat.le_trans hW.size q))
theorem Z6n{w:World}{b:Nat}{F:Nat->Prop}{l:List UInt8}(s:ByteArray)(h:BldAt w b F l)(hlen:l.length+s.size<=1000000000):
  cQ 47 #[tp b,.string s] w fun e w'=>e= .returned (.tuple #[.int .i64 s.size,.nilIface])/\∃F',BldAt w' b F' (l++s.data.toList)/\Keeps F F' w w':=by
 have cC:=Y6x h;clear h;go_enter Tryz.func47,Tryz.ntmps47;go_wp2_with (go_at_call 108;refine cC.mono ?_);rintro e w1 ⟨rfl,⟨v,h1⟩,hb1⟩;clear cC;obtain⟨A,c,rfl⟩:=OwnL.form h1.own;have H1:=hD h1;have HB1:=hD hb1;have c1:w1.cell? ⟨b,1,none⟩=some (.slice A l.length c):=h1.row.cell 1;clear h1 hb1;go_wp2_with (at_builtin;refine Y9c rfl _ _ rfl _ l rfl H1.out.own (Nat.zero_le _) s rfl hlen ?_;intro A' c' n' w2 hn' hown2 hgr hwh;have HF:=hD (Y6z H1.out rfl HB1.out (Ext.refl _) hown2 hgr hwh);have HR2:=H1.out.row.grown hgr (fun e=>H1.out.ne e.symm);have d1:w2.cell? ⟨b,1,none⟩=some (.slice A l.length c):=HR2.cell 1;have f1:w2.frozen? ⟨b,1,none⟩=false:=HR2.soft 1;clear hn' hown2 hgr hwh HR2)
 go_ret2
 exact⟨rfl,HF.out⟩
theorem X3g{w:World}{b:Nat}{F:Nat->Prop}{l:List UInt8}(c:UInt8)(h:BldAt w b F l)(hlen:l.length+1<=1000000000):
  cQ 193 #[tp b,.int .u8 c.toNat] w fun e w'=>e= .returned .nilIface/\∃F',BldAt w' b F' (l++ [c])/\Keeps F F' w w':=by
 have cC:=Y6x h;clear h;go_enter Tryz.func193,Tryz.ntmps193;go_wp2_with (go_at_call 108;refine cC.mono ?_);rintro e w1 ⟨rfl,⟨v,h1⟩,hb1⟩;clear cC;obtain⟨A,cc,rfl⟩:=OwnL.form h1.own;have H1:=hD h1;have HB1:=hD hb1;have c1:w1.cell? ⟨b,1,none⟩=some (.slice A l.length cc):=h1.row.cell 1;have hbl:=h1.row.lt;clear h1 hb1;go_wp2_with (at_builtin;refine Z0u elU8 Z4n Y2x rfl _ _ rfl _ l rfl (H1.out.own.only (G:=fun _=>False) (Only.of (by exact Xt)) (fun _ _ q=>q)) (Nat.zero_le _) w1.heap.size 1 c rfl (Row1.made w1 _ (encU c)) hlen (by decide) ?_;intro A' c' w2 hown2 hgr hwh;have HF:=hD (Y6z H1.out rfl HB1.out (Ext.alloc w1 _) hown2 hgr hwh);have HR2:=(H1.out.row.alloc (.cells #[.int .u8 c.toNat] 5)).grown hgr (fun e=>H1.out.ne e.symm);have d1:w2.cell? ⟨b,1,none⟩=some (.slice A l.length cc):=HR2.cell 1;have f1:w2.frozen? ⟨b,1,none⟩=false:=HR2.soft 1;clear hown2 hgr hwh HR2);go_ret;refine⟨rfl,?_⟩;have:=HF.out;rw[aA,aK]at this;exact this
theorem X2x(w:World)(g n:Nat):Only (fun i=>i=g) w (w.freeze ⟨g,0,none⟩ n):=by
 unfold World.freeze;split
 ·exact Only.refl
 ·exact⟨rfl,rfl,rfl,by simp,fun i hi hn=>Array.getElem?_modify .. |>.trans (if_neg (fun e=>hn e.symm))⟩
theorem Z9k{w:World}{b:Nat}{F:Nat->Prop}{l:List UInt8}(h:BldAt w b F l)(h0:l≠ []):
  cQ 49 #[tp b] w fun e w'=>e= .returned (.string (bts l))/\Only F w w':=by
 obtain⟨p,v,h⟩:=h;have hl0:l.length≠0:=by simpa using h0
 have hown:w.ownsRow 0 5 1 v l.length (l.flatMap encU):=h.own;obtain⟨g,cap,cur,rfl,hbg,hg,hnc,hcm,hcs,htake⟩:∃g cap cur,v= .slice (some ⟨g,0,none⟩) l.length cap/\0<=g/\w.heap[g]? =some (.cells cur 5 (0,0))/\l.length<=cap/\cap<=maxLen/\cur.size=cap*1/\cur.toList.take (l.length*1)=l.flatMap encU:=by
  rcases hown.2 with ⟨_,hz⟩ | ⟨g,cap,cur,hv,r⟩
  ·exact absurd hz hl0
  ·exact⟨g,cap,cur,hv,r⟩
 have c1:w.drew.cell? ⟨b,1,none⟩=some (.slice (some ⟨g,0,none⟩) l.length cap):=h.row.cell 1;have hSD:∀ty,(Builtin.unsafeSliceData_ #[106] ty #[.slice (some ⟨g,0,none⟩) l.length cap]).run Tryz.prog w.drew= .ok (tp g) w.drew:=fun ty=>
  Lib.run_unsafeSliceData_row _ _ _ _ _ _ (by omega)
 have hUS:(Builtin.unsafeString_ #[197,3] 9 #[tp g,.int .i64 l.length]).run Tryz.prog w.drew= .ok (.string (bts l)) (w.drew.freeze ⟨g,0,none⟩ l.length):=by refine Lib.run_unsafeString_row w.drew 197 3 9 5 Tryz.underlying197 (by kernel_rfl) g cur.size (by have hg':w.drew.heap[g]? =some (.cells cur 5 (0,0)):=hg;simp[World.shape?,hg']) l h0 (by omega) (by unfold maxLen at hcm;omega) ?_;intro j x hx;have:=hown.cells (g:=g) rfl j (.int .u8 x.toNat) (by rw[<-Y5r];simp[Lib.byteCells,hx]);exact this
 have HF:Hid (Only F w (w.drew.freeze ⟨g,0,none⟩ l.length)):=((Only.refl (F:=F)).drew).trans' ((X2x w.drew g l.length).mono (fun i q=> .inl (by rw[q];exact h.fv g rfl)));clear h hown hg htake hcs;go_enter Tryz.func49,Tryz.ntmps49;go_wp2_with fail
 go_region
 go_wp2_with fail;go_ret;exact⟨rfl,HF.out⟩
theorem U1o(s:List UInt8):(bts s).extract 0 (min (bts s).size 256)=bts (s.take 256):=by rw[ByteArray.ext_iff,ByteArray.data_extract,Z0e];simp only[bts];apply Array.ext';simp[Nat.min_comm]
theorem V9e(s:List UInt8):(bts s).extract (min (bts s).size 256) (bts s).size=bts (s.drop 256):=by
 rw[ByteArray.ext_iff,ByteArray.data_extract,Z0e];simp only[bts];apply Array.ext';simp;by_cases h:s.length<=256
 ·rw[Nat.min_eq_left h,List.drop_eq_nil_of_le (aF _),List.drop_eq_nil_of_le h];simp
 ·rw[Nat.min_eq_right (by omega),List.take_of_length_le (by simp)]
def RPg(p:Nat×ByteArray)(cs:List Value):Prop:=cs=encP p
def Y5n(l:List (Nat×ByteArray))(k:Nat):List UInt8:=Z0g l.length 4++(l.take k).flatMap (fun p=>Z0g p.1 4)
def V1i(l:List (Nat×ByteArray)):List UInt8:=Y5n l l.length
def Y4z(s:List UInt8)(k:Nat):List ByteArray:=(List.range k).map fun i=>padB (bts ((s.drop (256*i)).take 256))
theorem X8l(s:List UInt8)(k:Nat):Y4z s (k+1)=Y4z s k++ [padB (bts ((s.drop (256*k)).take 256))]:=by simp[Y4z,List.range_succ]
theorem Y4y(s:List UInt8)(k:Nat):(Y4z s k).length=k:=by simp[Y4z]
def Z2e(l:List (Nat×ByteArray)):List ByteArray:=Y4z (V1i l) (hdsN l.length)++l.map (fun p=>padB p.2)
theorem Y4d(l:List (Nat×ByteArray)):(Z2e l).length=hdsN l.length+l.length:=by simp[Z2e,Y4y]
theorem V1h(l:List (Nat×ByteArray))(k:Nat)(h:k<=l.length):(Y5n l k).length=4+4*k:=by
 have e:∀m:List (Nat×ByteArray),(m.flatMap (fun p=>Z0g p.1 4)).length=4*m.length:=by
  intro m
  induction m with
  | nil=>rfl
  | cons p r ih=>rw[aI,aA,ih,Z0m,List.length_cons];omega
 unfold Y5n;rw[aA,Z0m,e,aD];omega
theorem X7j(l:List (Nat×ByteArray))(k:Nat)(h:k<l.length):Y5n l (k+1)=Y5n l k++Z0g l[k].1 4:=by unfold Y5n;rw[List.take_succ_eq_append_getElem h,aH];simp
def BP(w W:World)(b:Nat)(l:List UInt8):Prop:=∃F:Nat->Prop,BldAt W b F l/\(∀i,F i->w.heap.size<=i)/\Ext w W
theorem BP.ext{w W W':World}{b:Nat}{l:List UInt8}(h:BP w W b l)(hx:Ext W W'):BP w W' b l:=by obtain⟨F,h1,h2,h3⟩:=h;exact⟨F,h1.ext hx,h2,h3.trans hx⟩
theorem X5z{w W:World}{b:Nat}{l:List UInt8}(s:ByteArray)(h:BP w W b l)(hl:l.length+s.size<=1000000000):
  cQ 47 #[tp b,.string s] W fun e w'=>e= .returned (.tuple #[.int .i64 s.size,.nilIface])/\BP w w' b (l++s.data.toList):=by
 obtain⟨F,h1,h2,h3⟩:=h;refine(Z6n s h1 hl).mono ?_;rintro e w' ⟨rfl,F',q1,q2⟩;refine⟨rfl,F',q1,fun i q=> ?_,((Only.of h3).trans' q2.only).toExt h2⟩;rcases q2.new i q with q | q
 ·exact h2 i q
 ·exact Nat.le_trans h3.size q
theorem U2k{w W:World}{b:Nat}{l:List UInt8}(h:BP w W b l)(h0:l≠ []):
  cQ 49 #[tp b] W fun e w'=>e= .returned (.string (bts l))/\Ext w w':=by
 obtain⟨F,h1,h2,h3⟩:=h;refine(Z9k h1 h0).mono ?_;rintro e w' ⟨rfl,q2⟩;exact⟨rfl,((Only.of h3).trans' q2).toExt h2⟩
theorem V6q(V:Value)(l:List (Nat×ByteArray))(w:World)(hs:Sl w 2 RPg V l)(hl:l.length<=1024)(hp:∀p∈l,p.1<2048/\p.2.size<=256):
  cQ 208 #[V] w fun e w'=>(∃v,e= .returned (.tuple #[v,.int .i64 0])/\OwnL w' w.heap.size 9 1 encS v (Z2e l))/\Ext w w':=by
 obtain⟨A,c,rfl⟩:=hs.form;obtain⟨_,hc1,hc2,hA⟩:=hs.at;have HA:=hD hA;have HP:=hD hp;obtain⟨n,hn⟩:∃n,l.length=n:=⟨_,rfl⟩;have HN:=hD hn;have q0:decide ((1024:Int)<(n:Int))=false:=by rw[decide_eq_false];omega
 have u0:IntKind.u64.wrap (n:Int)=(n:Int):=by rw[IntKind.wrap_u64];omega
 have cF:=Z5d n 4 (by omega) (by omega) (w.alloc (.cells #[.pointer none,.slice none 0 0] 108));have HB0:Hid (BP w (w.alloc (.cells #[.pointer none,.slice none 0 0] 108)) w.heap.size []):=⟨fun i=>i=w.heap.size,BldAt.made w,fun i q=>by omega,by exact Xt⟩;have H0:Hid (Y5n l 0= []++(bts (Z0g n 4)).data.toList):=by unfold Hid Y5n;rw[<-hn];simp[bts]
 have HLEN:=hD (fun k=>V1h l k);have HS:=hD (fun k=>X7j l k);have hn1:n<=1024:=by omega
 rw[hn]at hc1 ⊢;clear hs hA hp hn hl;go_enter Tryz.func208,Tryz.ntmps208;go_wp2_with (first
  | (go_at_call 144;refine cF.mono ?_;clear cF;rintro e w1 ⟨rfl,hb1⟩;have cS:=X5z (bts (Z0g n 4)) (HB0.out.ext hb1) (by rw[Z0e,Z0m];simp);clear hb1)
  | (go_at_call 47;refine cS.mono ?_;clear cS;rintro e w2 ⟨rfl,hb2⟩;have HB2:=hD hb2;clear hb2))
 rw[<-H0.out]at HB2
 go_loopw [22] (fun i wr=>∃k:Nat,k<=n/\i= .int .i64 k/\BP w wr w.heap.size (Y5n l k)) (fun i _=>n-(intOf i).toNat)
 case atStart=>exact⟨0,by omega,rfl,HB2.out⟩
 case round=>
  obtain⟨k,hk,rfl,hb⟩:=hrel;have HB:=hD hb;have hx:Ext w wr:=let ⟨_,_,_,h⟩:=hb;h;have HX:=hD hx;clear hb hx;by_cases hlt:k<n
  ·have hkl:k<l.length:=by rw[HN.out];exact hlt
   have hd:decide ((k:Int)<(n:Int))=true:=by simp;omega
   have HT:=hD (HS.out k hkl);have HL:=hD (HLEN.out k (by omega));have hpk:=HP.out l[k] (List.getElem_mem hkl);obtain⟨b,off,rfl,hbl,hx⟩:=HA.out (by omega);obtain⟨cs,rfl,_,hcs⟩:=hx k hkl;have e0:wr.cell? ⟨b,off+k*2,none⟩=some (.int .i64 l[k].1):=(HX.out.cell (p:=⟨b,off+k*2,none⟩) hbl).trans (hcs 0 _ rfl);have e1:wr.cell? ⟨b,off+k*2+1,none⟩=some (.string l[k].2):=(HX.out.cell (p:=⟨b,off+k*2+1,none⟩) hbl).trans (hcs 1 _ rfl);generalize l[k]=x at *;obtain⟨xa,xd⟩:=x;dsimp only at *;clear hx hcs;obtain⟨hx1,hx2⟩:=hpk;have hbw:=aE hbl HX.out.size;have q1:decide ((xa:Int)<0)=false:=by rw[decide_eq_false];omega
   have q2:decide ((2048:Int)<=(xa:Int))=false:=by rw[decide_eq_false];omega
   have q3:decide ((256:Int)<(xd.size:Int))=false:=by rw[decide_eq_false];omega
   have u1:IntKind.u64.wrap (xa:Int)=(xa:Int):=by rw[IntKind.wrap_u64];omega
   have HR:Hid (Ext wr (wr.alloc (.cells #[.int .i64 xa,.string xd] 259))/\Row1 (wr.alloc (.cells #[.int .i64 xa,.string xd] 259)) wr.heap.size 259 [.int .i64 xa,.string xd]):=⟨by exact Xt,Row1.made wr _ _⟩;have cF:=Z5d xa 4 (by omega) (by omega) (wr.alloc (.cells #[.int .i64 xa,.string xd] 259));go_wp2_with (first
    | (go_at_call 144;refine cF.mono ?_;clear cF;rintro e w1 ⟨rfl,hb1⟩;have cS:=X5z (bts (Z0g xa 4)) (HB.out.ext (HR.out.1.trans hb1)) (by rw[Z0e,Z0m,HL.out];omega);clear hb1)
    | (go_at_call 47;refine cS.mono ?_;clear cS;rintro e w2 ⟨rfl,hb2⟩;have HB3:=hD hb2;clear hb2))
   go_roundw
   case measure=>simp[intOf];omega
   case rel=>exact⟨k+1,by omega,by go_num,by rw[HT.out];exact HB3.out⟩
  ·obtain rfl:k=n:=by omega
   have hd:decide ((k:Int)<(k:Int))=false:=by simp
   have HPE:Hid (Y5n l k=V1i l):=by unfold Hid V1i;rw[HN.out]
   have cT:=U2k HB.out (by intro e;have:=HLEN.out k (by rw[HN.out];omega);rw[e]at this;simp at this;omega);rw[HPE.out]at cT;have HHL:Hid ((V1i l).length=4+4*k):=by unfold Hid;rw[<-HPE.out];exact HLEN.out k (by rw[HN.out];omega)
   have HG:Hid (∀W,cQ 164 #[.int .i64 k] W fun e w'=>e= .returned (.int .i64 (hdsN k))/\W=w'):=fun W=>Y6n k W (by omega);obtain⟨h,hh⟩:∃h,hdsN k=h:=⟨_,rfl⟩;have HH:=hD hh;rw[hh]at HG;have hh1:h<=1000:=by unfold hdsN at hh;omega
   obtain⟨hd1,hhd⟩:∃hd1,V1i l=hd1:=⟨_,rfl⟩;have HHD:=hD hhd;rw[hhd]at cT HHL;clear hh hhd;go_wp2_with (first
    | (go_at_call 49;refine cT.mono ?_;clear cT;rintro e w3 ⟨rfl,hb3⟩;have HX3:=hD hb3;clear hb3)
    | (go_at_call 164;refine(HG.out _).mono ?_;rintro e w4 ⟨rfl,hw4⟩;subst hw4))
   go_loopw [50,7,8] (fun i s v wr=>∃j:Nat,j<=h/\i= .int .i64 j/\s= .string (bts (hd1.drop (256*j)))/\Ext w wr/\OwnL wr w.heap.size 9 1 encS v (Y4z hd1 j)) (fun i _ _ _=>h-(intOf i).toNat)
   case atStart=>exact⟨0,by omega,rfl,rfl,HX3.out,OwnL.nil _ _ _ _ _⟩
   case round=>
    obtain⟨j,hj,rfl,rfl,hb,hown⟩:=hrel;have HX:=hD hb;have HO:=hD hown;have hzr:=hb.size;clear hb hown;by_cases hjh:j<h
    ·have hd2:decide ((j:Int)<(h:Int))=true:=by simp;omega
     have HCS:=hD (X8l hd1 j);have HCL:=hD (Y4y hd1 j);obtain⟨x,hx⟩:∃x,bts (hd1.drop (256*j))=x:=⟨_,rfl⟩;have HMI:(min (x.size:Int) 256).toNat=min x.size 256:=by omega
     have HM1:Hid (padB (x.extract 0 (min (x.size:Int) 256).toNat)=padB (bts ((hd1.drop (256*j)).take 256))/\(x.extract 0 (min (x.size:Int) 256).toNat).size<=256):=by unfold Hid;rw[HMI,<-hx,U1o];exact⟨rfl,by rw[Z0e];simp;omega⟩
     have HM2:Hid (x.extract (min (x.size:Int) 256).toNat x.size=bts (hd1.drop (256*(j+1)))):=by
      unfold Hid;rw[HMI,<-hx,V9e,List.drop_drop]
      congr 2
     have hx64:x.size<=1000000:=by rw[<-hx,Z0e,aJ,HHL.out];omega
     clear HMI;rw[hx];generalize Y4z hd1 j=out at *;obtain⟨vA,vc,rfl⟩:=HO.out.form;rw[HCL.out]at HO ⊢;clear hx;have cF:=X0w (x.extract 0 (min (x.size:Int) 256).toNat) wr HM1.out.2;go_wp2_with (first
      | (go_at_call 233;refine cF.mono ?_;clear cF;rintro e w5 ⟨rfl,hb5⟩;rw[HM1.out.1];have HX5:=hD (HX.out.trans hb5);have HO5:=hD (HO.out.ext hb5);have hz5:=HX5.out.size;clear hb5)
      | (at_builtin;refine Z2u elStr Z0d Z1n rfl (.tmp 55) (.tmp 60) rfl _ out rfl (HO5.out.ext (by exact Xt)) (by simp;omega) _ 1 _ rfl (Row1.made _ _ (encS _)) (by rw[HCL.out];omega) (by decide) ?_;intro pA pc wp hp hgp;have HXP:=hD ((HO5.out.ext (by exact Xt)).grown (a:=w) (by exact Xx (HX5.out)) hgp (by simp));rw[aA,aK]at hp;have HPP:=hD hp;clear hp hgp))
     go_roundw
     case measure=>simp[intOf];omega
     case rel=>exact⟨j+1,by omega,by go_num,by rw[HM2.out],HXP.out,by rw[HCS.out];exact HPP.out⟩
    ·obtain rfl:j=h:=by omega
     have hd2:decide ((j:Int)<(j:Int))=false:=by simp
     have HCL:=hD (Y4y hd1 j);obtain⟨x,hx⟩:∃x,bts (hd1.drop (256*j))=x:=⟨_,rfl⟩;rw[hx];have HCC:Hid (∀i,i<=k->Z2e l=Y4z hd1 j++l.map (fun p=>padB p.2)):=fun i _=>by unfold Z2e;rw[HHD.out,HN.out,HH.out]
     generalize Y4z hd1 j=out at *;obtain⟨vA,vc,rfl⟩:=HO.out.form;rw[HCL.out]at HO ⊢;clear hx;go_wp2_with fail
     go_loopw [68,8] (fun i v wr=>∃m:Nat,m<=k/\i= .int .i64 m/\Ext w wr/\OwnL wr w.heap.size 9 1 encS v (out++(l.take m).map (fun p=>padB p.2))) (fun i _ _=>k-(intOf i).toNat)
     case atStart=>exact⟨0,by omega,rfl,HX.out,by rw[List.take_zero,List.map_nil,List.append_nil];exact HO.out⟩
     case round=>
      obtain⟨m,hm,rfl,hb,hown⟩:=hrel;have HX6:=hD hb;have HO6:=hD hown;have hz6:=hb.size;have HML:Hid ((out++(l.take m).map (fun p=>padB p.2)).length=j+m):=by unfold Hid;rw[aA,HCL.out,List.length_map,aD,HN.out];omega
      clear hb hown;by_cases hlt:m<k
      ·have hkl:m<l.length:=by rw[HN.out];exact hlt
       have hd3:decide ((m:Int)<(k:Int))=true:=by simp;omega
       have HST:Hid (out++(l.take (m+1)).map (fun p=>padB p.2)=(out++(l.take m).map (fun p=>padB p.2))++ [padB l[m].2]):=by unfold Hid;rw[List.take_succ_eq_append_getElem hkl,List.map_append,aG];rfl
       have hpk:=HP.out l[m] (List.getElem_mem hkl);obtain⟨b,off,rfl,hbl,hx⟩:=HA.out (by omega);obtain⟨cs,rfl,_,hcs⟩:=hx m hkl;have e0:wr.cell? ⟨b,off+m*2,none⟩=some (.int .i64 l[m].1):=(HX6.out.cell (p:=⟨b,off+m*2,none⟩) hbl).trans (hcs 0 _ rfl);have e1:wr.cell? ⟨b,off+m*2+1,none⟩=some (.string l[m].2):=(HX6.out.cell (p:=⟨b,off+m*2+1,none⟩) hbl).trans (hcs 1 _ rfl);generalize l[m]=x at *;obtain⟨xa,xd⟩:=x;dsimp only at *;generalize out++(l.take m).map (fun p=>padB p.2)=out2 at *;obtain⟨vA,vc,rfl⟩:=HO6.out.form;rw[HML.out]at HO6 ⊢;clear hx hcs;obtain⟨hx1,hx2⟩:=hpk;have hbw:=aE hbl HX6.out.size;have HR:Hid (Ext wr (wr.alloc (.cells #[.int .i64 xa,.string xd] 259))):=by exact Xt
       have cF:=X0w xd (wr.alloc (.cells #[.int .i64 xa,.string xd] 259)) hx2;go_wp2_with (first
        | (go_at_call 233;refine cF.mono ?_;clear cF;rintro e w5 ⟨rfl,hb5⟩;have HX5:=hD (HX6.out.trans (HR.out.trans hb5));have HO5:=hD (HO6.out.ext (HR.out.trans hb5));have hz5:=HX5.out.size;clear hb5)
        | (at_builtin;refine Z2u elStr Z0d Z1n rfl (.tmp 72) (.tmp 76) rfl _ out2 rfl (HO5.out.ext (by exact Xt)) (by simp;omega) _ 1 _ rfl (Row1.made _ _ (encS _)) (by rw[HML.out];omega) (by decide) ?_;intro pA pc wp hp hgp;have HXP:=hD ((HO5.out.ext (by exact Xt)).grown (a:=w) (by exact Xx (HX5.out)) hgp (by simp));rw[aA,aK]at hp;have HPP:=hD hp;clear hp hgp))
       go_roundw
       case measure=>simp[intOf];omega
       case rel=>exact⟨m+1,by omega,by go_num,HXP.out,by rw[HST.out];exact HPP.out⟩
      ·obtain rfl:m=k:=by omega
       have hd3:decide ((m:Int)<(m:Int))=false:=by simp
       have HE:Hid (Z2e l=out++(l.take m).map (fun p=>padB p.2)):=by unfold Hid;rw[HCC.out 0 (by omega),<-HN.out,List.take_length]
       generalize out++(l.take m).map (fun p=>padB p.2)=res at *;obtain⟨vA,vc,rfl⟩:=HO6.out.form;rw[HML.out]at HO6 ⊢;go_wp2_with fail
       go_ret2
       exact⟨⟨_,rfl,by rw[HE.out];exact HO6.out⟩,HX6.out⟩
theorem StoreAs.diskF{w:World}{s g m:Nat}{F:Nat->Prop}{S:StoreD}(h:StoreAs w s F S g m):DiskAt w g (fun i=>(F i/\i<w.heap.size)/\i≠s/\i≠m) S.disk:=by
 obtain⟨bv,lv,hd⟩:=h.disk;refine⟨bv,lv,hd.row,hd.blocks,hd.late,⟨⟨hd.fg,hd.row.lt⟩,(hd.row.apart h.row (by decide)),hd.row.notMap h.map⟩,fun b hb=>⟨⟨hd.fb b hb,(hd.blocks.lt b hb).2⟩,fun e=> ?_,fun e=> ?_⟩,fun b hb=>⟨⟨hd.fl b hb,(hd.late.lt b hb).2⟩,fun e=> ?_,fun e=> ?_⟩,hd.wf⟩
 ·exact hd.blocks.apartRow h.row (by decide) (by rw[hb,e])
 ·exact hd.blocks.notMap h.map (by rw[hb,e])
 ·exact hd.late.apartRow h.row (by decide) (by rw[hb,e])
 ·exact hd.late.notMap h.map (by rw[hb,e])
theorem StoreAs.disked{w w':World}{s g m:Nat}{F F':Nat->Prop}{S:StoreD}{D:DiskD}(h:StoreAs w s F S g m)(hd:DiskAt w' g F' D)(hk:Keeps (fun i=>(F i/\i<w.heap.size)/\i≠s/\i≠m) F' w w')(hb:D.blocks.length=S.disk.blocks.length):
  StoreAs w' s (fun i=>i=s\/i=m\/F' i) { S with disk:=D} g m/\Keeps F (fun i=>i=s\/i=m\/F' i) w w':=
 ⟨⟨hk.only.row h.row (fun q=>q.2.1 rfl),hd.mono (fun i q=> .inr (.inr q)),hk.only.map h.map (fun q=>q.2.2 rfl),.inl rfl,.inr (.inl rfl),⟨by dsimp only;rw[hb];exact h.wf.fits,h.wf.dirty⟩⟩,
  ⟨hk.only.mono (fun i q=> .inl q.1.1),fun i q=>by
   rcases q with rfl | rfl | q
   ·exact .inl h.fs
   ·exact .inl h.fm
   ·rcases hk.new i q with q | q
    ·exact .inl q.1.1
    ·exact .inr q⟩⟩
theorem setS{a w:World}{g:Nat}(h:Only (fun i=>i=g) a w)(k:Nat)(u:Value):Only (fun i=>i=g) a (w.setCell ⟨g,k,none⟩ u):=h.setCell (.inl rfl) u
theorem StoreAs.headed{w:World}{s g m:Nat}{F:Nat->Prop}{S:StoreD}(h:StoreAs w s F S g m)(H:HeadD)(hf:FitsH S.disk.blocks.length H)(hp:H.pages=S.head.pages):
  StoreAs ((((w.setCell ⟨s,1,none⟩ (.int .u64 H.seq)).setCell ⟨s,2,none⟩ (.int .i64 H.used)).setCell ⟨s,3,none⟩ (.int .i64 H.room)).setCell ⟨s,4,none⟩ (.int .i64 H.pages)) s F { S with head:=H} g m/\
  Only (fun i=>i=s) w ((((w.setCell ⟨s,1,none⟩ (.int .u64 H.seq)).setCell ⟨s,2,none⟩ (.int .i64 H.used)).setCell ⟨s,3,none⟩ (.int .i64 H.room)).setCell ⟨s,4,none⟩ (.int .i64 H.pages)):=by
 have ho:Only (fun i=>i=s) w ((((w.setCell ⟨s,1,none⟩ (.int .u64 H.seq)).setCell ⟨s,2,none⟩ (.int .i64 H.used)).setCell ⟨s,3,none⟩ (.int .i64 H.room)).setCell ⟨s,4,none⟩ (.int .i64 H.pages)):=
  setS (setS (setS (setS Only.refl 1 _) 2 _) 3 _) 4 _
 exact⟨⟨(((h.row.set 1 _).set 2 _).set 3 _).set 4 _,(h.diskF.only ho (fun i q=>q.2.1)).mono (fun i q=>q.1.1),ho.map h.map (fun e=>h.row.notMap h.map e.symm),h.fs,h.fm,⟨hf,fun x b hb=>by dsimp only;rw[hp];exact h.wf.dirty x b hb⟩⟩,ho⟩
theorem Y7j(D:DiskD):(useD D).1.blocks.length=D.blocks.length:=by rw[Z8y]
theorem Z8b(D:DiskD)(n:Int)(s:ByteArray):(Z1d D n s).1.blocks.length=D.blocks.length:=by
 unfold Z1d;split
 ·rfl
 ·split
  ·rfl
  ·split
   ·exact Y7j D
   ·exact Y7j D
theorem Z4v(D:DiskD):(Z0v D).1.blocks.length=D.blocks.length:=by
 unfold Z0v;split
 ·rfl
 ·split
  ·exact Y7j D
  ·exact Z6j _ _
theorem V6j(D:DiskD)(h:HeadD):(putD D h).1.blocks.length=D.blocks.length:=by
 unfold putD;split
 ·exact Z8b _ _ _
 ·rw[Z4v,Z8b]
def Z1i(h:HeadD)(u:Nat):HeadD:=⟨h.seq+1,u,h.room,h.pages⟩
def Z7c(S:StoreD)(u:Nat):StoreD:=if(putD S.disk (Z1i S.head u)).2=0 then { S with disk:=(putD S.disk (Z1i S.head u)).1,head:=Z1i S.head u}else { S with disk:=(putD S.disk (Z1i S.head u)).1}
theorem X4b{s:Nat}{F:Nat->Prop}{S:StoreD}(u:Nat)(w:World)(h:StoreAt w s F S)(hh:FitsH S.disk.blocks.length (Z1i S.head u))(hl:S.disk.late.length+1<=1000000000):
  cQ 165 #[tp s,.int .i64 u] w fun e w'=>e= .returned (.int .i64 (putD S.disk (Z1i S.head u)).2)/\∃F',StoreAt w' s F' (Z7c S u)/\Keeps F F' w w':=by
 obtain⟨g,m,h⟩:=h;have hdf:=h.diskF;have cP:Hid (∀W,Ext w W->cQ 115 #[tp g,.agg #[.int .u64 (Z1i S.head u).seq,.int .i64 (Z1i S.head u).used,.int .i64 (Z1i S.head u).room,.int .i64 (Z1i S.head u).pages]] W fun e w'=>e= .returned (.int .i64 (putD S.disk (Z1i S.head u)).2)/\∃F',DiskAt w' g F' (putD S.disk (Z1i S.head u)).1/\Keeps (fun i=>(F i/\i<w.heap.size)/\i≠s/\i≠m) F' W w'):=fun W hW=>V0w (Z1i S.head u) W (hdf.ext hW) hh.ok hl;obtain⟨D,R,hR⟩:∃D R,putD S.disk (Z1i S.head u)=(D,R):=⟨_,_,rfl⟩;have HLB:Hid (D.blocks.length=S.disk.blocks.length):=by unfold Hid;rw[<-V6j S.disk (Z1i S.head u),hR]
 have HS:Hid (Z7c S u=if R=0 then { S with disk:=D,head:=Z1i S.head u}else { S with disk:=D}):=by unfold Hid Z7c;rw[hR]
 rw[hR]at cP ⊢;dsimp only at cP ⊢;have HH:=hD h;have HF:=hD hh;have hsq:=hh.ok.seq;unfold Z1i at cP hsq;dsimp only at cP hsq;have c0:w.cell? ⟨s,0,none⟩=some (tp g):=h.row.cell 0;have HR0:=hD h.row;obtain⟨sq,h1⟩:∃x,S.head.seq=x:=⟨_,rfl⟩;obtain⟨us,h2⟩:∃x,S.head.used=x:=⟨_,rfl⟩;obtain⟨ro,h3⟩:∃x,S.head.room=x:=⟨_,rfl⟩;obtain⟨pa,h4⟩:∃x,S.head.pages=x:=⟨_,rfl⟩;have c1:w.cell? ⟨s,1,none⟩=some (.int .u64 sq):=by rw[<-h1];exact h.row.cell 1
 have c2:w.cell? ⟨s,2,none⟩=some (.int .i64 us):=by rw[<-h2];exact h.row.cell 2
 have c3:w.cell? ⟨s,3,none⟩=some (.int .i64 ro):=by rw[<-h3];exact h.row.cell 3
 have c4:w.cell? ⟨s,4,none⟩=some (.int .i64 pa):=by rw[<-h4];exact h.row.cell 4
 rw[h1,h3,h4]at cP;rw[h1]at hsq;have HE:Hid (Z1i S.head u=⟨sq+1,u,ro,pa⟩):=by unfold Hid Z1i;rw[h1,h3,h4]
 have u1:IntKind.u64.wrap ((sq:Int)+1)=((sq+1:Nat):Int):=by rw[IntKind.wrap_u64];omega
 have hsl:=h.row.lt;clear h hh hdf h1 h2 h3 h4 hR;go_enter Tryz.func165,Tryz.ntmps165;go_upto_region 3 with fail;generalize hW0:World.alloc _ _=W0;have HW0:Hid (Ext w W0/\Row1 W0 w.heap.size 207 [.int .u64 ((sq:Int)+1),.int .i64 u,.int .i64 ro,.int .i64 pa]/\W0.heap.size=w.heap.size+1):=by subst hW0;exact⟨by exact Xt,Row1.made _ _ _,by simp⟩
 clear hW0;have HKS:Hid (∀W,Only (fun i=>(F i/\i<w.heap.size)/\i≠s/\i≠m) W0 W->W.cell? ⟨s,0,none⟩=some (tp g)/\W.cell? ⟨w.heap.size,0,none⟩=some (.int .u64 ((sq:Int)+1))/\W.cell? ⟨w.heap.size,1,none⟩=some (.int .i64 u)/\W.cell? ⟨w.heap.size,2,none⟩=some (.int .i64 ro)/\W.cell? ⟨w.heap.size,3,none⟩=some (.int .i64 pa)):=fun W hW=>by have hr:=hW.row HW0.out.2.1 (fun q=>by have:=q.1.2;omega);have hr0:=hW.row (HR0.out.ext HW0.out.1 HR0.out.lt) (fun q=>q.2.1 rfl);exact⟨hr0.cell 0,hr.cell 0,hr.cell 1,hr.cell 2,hr.cell 3⟩
 clear c0 c1 c2 c3 c4;refine wp_region_held_drew (S:=fun W=>W.cell? ⟨s,0,none⟩=some (tp g)/\W.cell? ⟨w.heap.size,0,none⟩=some (.int .u64 ((sq:Int)+1))/\W.cell? ⟨w.heap.size,1,none⟩=some (.int .i64 u)/\W.cell? ⟨w.heap.size,2,none⟩=some (.int .i64 ro)/\W.cell? ⟨w.heap.size,3,none⟩=some (.int .i64 pa)) (by kernel_rfl) (HKS.out _ (Only.of (by exact Xt))) (fun hHeld=> ?_);refine' tk 0 ?_;refine' tk 1 ?_;refine' tk 2 ?_;refine' tk 3 ?_;refine' tk 4 ?_;refine stp 5 (fun K hK=> ?_);go_simp;refine(cP.out _ (Ext.trans HW0.out.1 (by exact Xt))).mono ?_;rintro e w2 ⟨rfl,F2,hd2,hk2⟩;have HB1:Hid (Ext W0 (World.drew W0)):=by exact Xt
 have HB:Hid (Only (fun i=>(F i/\i<w.heap.size)/\i≠s/\i≠m) W0 w2):=(Only.of HB1.out).trans' hk2.only;have HK2:Hid (Keeps (fun i=>(F i/\i<w.heap.size)/\i≠s/\i≠m) F2 w w2):=Keeps.trans (Keeps.of (Ext.trans HW0.out.1 HB1.out)) hk2;have HD2:=hD hd2;clear hd2 hk2
 (try dsimp only)
 (try go_simp)
 refine hK.out _ _ (HKS.out _ HB.out) (fun hHeld=> ?_);clear hK K;refine pt ?_;refine' tk 6 ?_;refine wpAnyH_done (by kernel_rfl) ?_ _;have HST:=hD (StoreAs.disked HH.out HD2.out HK2.out HLB.out);obtain⟨b0,b1,b2,b3,b4⟩:=HKS.out _ HB.out;by_cases hR0:R=0
 ·subst hR0;rw[if_pos rfl]at HS;have HR2:=hD HST.out.1.row;have v1:=HR2.out.cell 1;have v2:=HR2.out.cell 2;have v3:=HR2.out.cell 3;have v4:=HR2.out.cell 4;have f1:=HR2.out.soft 1;have f2:=HR2.out.soft 2;have f3:=HR2.out.soft 3;have f4:=HR2.out.soft 4;go_wp2_with fail;go_ret;have hfin:=HST.out.1.headed (Z1i S.head u) (by dsimp only;rw[HLB.out];exact HF.out) rfl;rw[HS.out];rw[HE.out]at hfin ⊢;exact⟨rfl,_,⟨g,m,hfin.1⟩,⟨HST.out.2.only.trans hfin.2 (fun i q=>by subst q;exact .inl HH.out.fs),HST.out.2.new⟩⟩
 ·rw[if_neg hR0]at HS;have q1:¬R=0:=hR0;have q2:(R !=0)=true:=by simpa using hR0
  have q3:decide (R=0)=false:=decide_eq_false hR0;go_wp2_with fail;go_ret;exact⟨rfl,_,by rw[HS.out];exact⟨g,m,HST.out.1⟩,HST.out.2⟩
def Z0k(D:DiskD):List (Nat×ByteArray)->DiskD×Int
 | []=>(D,0)
 | p::r=>if(Z1d D p.1 p.2).2≠0 then Z1d D p.1 p.2 else Z0k (Z1d D p.1 p.2).1 r
theorem Z4c(D:DiskD)(p:Nat×ByteArray)(r:List (Nat×ByteArray)):Z0k D (p::r)=if(Z1d D p.1 p.2).2=0 then Z0k (Z1d D p.1 p.2).1 r else Z1d D p.1 p.2:=by
 rw[Z0k];by_cases h:(Z1d D p.1 p.2).2=0
 ·rw[if_pos h,if_neg (fun q=>q h)]
 ·rw[if_neg h,if_pos h]
theorem Z2p:∀(xs ys:List (Nat×ByteArray)) (D:DiskD),Z0k D (xs++ys)=if(Z0k D xs).2=0 then Z0k (Z0k D xs).1 ys else Z0k D xs
 | [],ys,D=>by rw[List.nil_append];simp[Z0k]
 | p::r,ys,D=>by
   rw[List.cons_append,Z4c,Z4c];by_cases h:(Z1d D p.1 p.2).2=0
   ·rw[if_pos h,if_pos h];exact Z2p r ys _
   ·rw[if_neg h,if_neg h,if_neg h]
theorem Z8x(D:DiskD)(n:Int)(s:ByteArray):(Z1d D n s).1.late.length<=D.late.length+1:=by
 unfold Z1d;split
 ·simp
 ·split
  ·simp
  ·split
   ·rw[Z6z];omega
   ·simp[Z6z]
theorem Z4b:∀(l:List (Nat×ByteArray)) (D:DiskD),(Z0k D l).1.late.length<=D.late.length+l.length
 | [],D=>by simp[Z0k]
 | p::r,D=>by
   have h1:=Z8x D p.1 p.2;have h2:=Z4b r (Z1d D p.1 p.2).1;unfold Z0k;split
   ·simp only[List.length_cons];omega
   ·simp only[List.length_cons];omega
theorem Z2t:∀(l:List (Nat×ByteArray)) (D:DiskD),(Z0k D l).1.blocks.length=D.blocks.length
 | [],D=>rfl
 | p::r,D=>by
   unfold Z0k;split
   ·exact Z8b _ _ _
   ·rw[Z2t r,Z8b]
theorem Z9f(D:DiskD):(Z0v D).1.late.length<=D.late.length:=by
 unfold Z0v;split
 ·exact aF _
 ·split
  ·rw[Z6z];exact aF _
  ·simp
theorem U2p(ro xa:Nat)(h1:ro<=2048)(h2:xa<=2048):IntKind.i64.wrap (IntKind.i64.wrap (2+(ro:Int))+(xa:Int))=2+(ro:Int)+xa:=by
 have e1:IntKind.i64.wrap (2+(ro:Int))=2+(ro:Int):=by rw[IntKind.wrap_i64];omega
 rw[e1,IntKind.wrap_i64];omega
def atH(S:StoreD)(l:List (Nat×ByteArray)):List (Nat×ByteArray):=l.map fun p=>(2+S.head.room+p.1,p.2)
def Y1t(S:StoreD)(l:List (Nat×ByteArray)):StoreD×Int:=
 if(Z0k S.disk (atH S l)).2≠0 then({ S with disk:=(Z0k S.disk (atH S l)).1},(Z0k S.disk (atH S l)).2)
 else if(Z0v (Z0k S.disk (atH S l)).1).2≠0 then({ S with disk:=(Z0v (Z0k S.disk (atH S l)).1).1},(Z0v (Z0k S.disk (atH S l)).1).2)
 else(Z7c { S with disk:=(Z0v (Z0k S.disk (atH S l)).1).1} 0,(putD (Z0v (Z0k S.disk (atH S l)).1).1 (Z1i S.head 0)).2)
structure HomeI (w:World) (s g m:Nat) (F:Nat->Prop) (S:StoreD) (l:List (Nat×ByteArray)) (W:World):Prop where
 ok:(Z0k S.disk l).2=0
 ex:∃F':Nat->Prop,StoreAs W s F' { S with disk:=(Z0k S.disk l).1} g m/\Keeps F F' w W/\∀i,F' i->i<W.heap.size
theorem V8a{s:Nat}{F:Nat->Prop}{S:StoreD}(V:Value)(l:List (Nat×ByteArray))(w:World)(h:StoreAt w s F S)(hs:Sl w 2 RPg V l)(hV:∀b,0<l.length->V.ownBlock=some b->¬F b)(hp:∀p∈l,p.1<S.head.pages)(hl:l.length<=1000000)(hlt:S.disk.late.length<=100000000)(hsq:S.head.seq+1<18446744073709551616):
  cQ 118 #[tp s,V] w fun e w'=>e= .returned (.int .i64 (Y1t S l).2)/\∃F',StoreAt w' s F' (Y1t S l).1/\Keeps F F' w w':=by
 obtain⟨g,m,h⟩:=h;obtain⟨A,c,rfl⟩:=hs.form;obtain⟨_,hc1,hc2,hA⟩:=hs.at;have HA:=hD hA;have HP:=hD hp;have HV:=hD hV;have hft:=h.wf.fits;have HH:=hD h;have HSQ:=hD hsq;have HLT:=hD hlt;obtain⟨n,hn⟩:∃n,l.length=n:=⟨_,rfl⟩;have HN:=hD hn;have hn2:n<=1000000:=by omega
 have HF:=hD hft;obtain⟨pa,h4⟩:∃x,S.head.pages=x:=⟨_,rfl⟩;obtain⟨ro,h3⟩:∃x,S.head.room=x:=⟨_,rfl⟩;have hpa:=hft.most;have hfi:=hft.fits;have hbl:=h.disk;have hmany:S.disk.blocks.length<=2048:=let ⟨_,_,hd⟩:=h.disk;hd.wf.many;have HPA:=hD h4;have HRO:=hD h3;rw[h4]at hpa hfi HP;rw[h3]at hfi;have hro:ro<=2048:=by omega
 have HI0:Hid (HomeI w s g m F S (atH S (l.take 0)) w):=⟨rfl,fun i=>F i/\i<w.heap.size,h.shrink,⟨Only.refl,fun i q=> .inl q.1⟩,fun i q=>q.2⟩;rw[hn]at hc1 ⊢;clear h hs hA hp hV hft hn h3 h4 hbl hsq hlt hfi hmany;go_enter Tryz.func118,Tryz.ntmps118;go_wp2_with fail
 go_loopw [11] (fun i wr=>∃k:Nat,k<=n/\i= .int .i64 k/\HomeI w s g m F S (atH S (l.take k)) wr) (fun i _=>n-(intOf i).toNat)
 case atStart=>exact⟨0,by omega,rfl,HI0.out⟩
 case round=>
  obtain⟨k,hk,rfl,hi⟩:=hrel;have HI:=hD hi;obtain⟨F1,hs1,hk1,hb1⟩:=hi.ex;have H1:=hD hs1;have HK1:=hD hk1;have HB1:=hD hb1;have hsl:=hs1.row.lt;clear hi hs1 hk1 hb1;by_cases hlt:k<n
  ·have hkl:k<l.length:=by rw[HN.out];exact hlt
   have hd:decide ((k:Int)<(n:Int))=true:=by simp;omega
   have HST:Hid (atH S (l.take (k+1))=atH S (l.take k)++ [(2+ro+l[k].1,l[k].2)]):=by unfold Hid atH;rw[List.take_succ_eq_append_getElem hkl,List.map_append,HRO.out];rfl
   have hpk:=HP.out l[k] (List.getElem_mem hkl);obtain⟨b,off,rfl,hbl,hx⟩:=HA.out (by omega);obtain⟨cs,rfl,_,hcs⟩:=hx k hkl;have hnF:¬F b:=HV.out b (by omega) rfl;have e0:wr.cell? ⟨b,off+k*2,none⟩=some (.int .i64 l[k].1):=(HK1.out.only.cell hbl hnF).trans (hcs 0 _ rfl);have e1:wr.cell? ⟨b,off+k*2+1,none⟩=some (.string l[k].2):=(HK1.out.only.cell hbl hnF).trans (hcs 1 _ rfl);generalize l[k]=x at *;obtain⟨xa,xd⟩:=x;dsimp only at *;clear hx hcs hnF;have hbw:=aE hbl HK1.out.only.size;have q2:decide ((pa:Int)<=(xa:Int))=false:=by rw[decide_eq_false];omega
   have c0:wr.cell? ⟨s,0,none⟩=some (tp g):=H1.out.row.cell 0;have c3:wr.cell? ⟨s,3,none⟩=some (.int .i64 ro):=by rw[<-HRO.out];exact H1.out.row.cell 3
   have c4:wr.cell? ⟨s,4,none⟩=some (.int .i64 pa):=by rw[<-HPA.out];exact H1.out.row.cell 4
   go_upto_region 4 with fail;generalize hW1:World.alloc _ _=W1;have HW1:Hid (Ext wr W1/\Row1 W1 wr.heap.size 259 [.int .i64 xa,.string xd]/\W1.heap.size=wr.heap.size+1):=by subst hW1;exact⟨by exact Xt,Row1.made _ _ _,by simp⟩
   clear hW1 c0 c3 c4 e0 e1;have HS1:=hD (H1.out.ext HW1.out.1);have HKS:Hid (∀W,Only (fun i=>(F1 i/\i<W1.heap.size)/\i≠s/\i≠m) W1 W->W.cell? ⟨s,0,none⟩=some (tp g)/\W.cell? ⟨s,3,none⟩=some (.int .i64 ro)/\W.cell? ⟨s,4,none⟩=some (.int .i64 pa)/\W.cell? ⟨wr.heap.size,0,none⟩=some (.int .i64 xa)/\W.cell? ⟨wr.heap.size,1,none⟩=some (.string xd)):=fun W hW=>by
    have hr:=hW.row HW1.out.2.1 (fun q=>by have:=HB1.out _ q.1.1;omega);have hr0:=hW.row HS1.out.row (fun q=>q.2.1 rfl);refine⟨hr0.cell 0,?_,?_,hr.cell 0,hr.cell 1⟩
    ·rw[<-HRO.out];exact hr0.cell 3
    ·rw[<-HPA.out];exact hr0.cell 4
   obtain⟨d0,d3,d4,dx,dy⟩:=HKS.out W1 Only.refl;have cW:Hid (∀W,Ext W1 W->cQ 114 #[tp g,.int .i64 (2+(ro:Int)+xa),.string xd] W fun e w'=>e= .returned (.int .i64 (Z1d (Z0k S.disk (atH S (l.take k))).1 ((2+ro+xa:Nat):Int) xd).2)/\∃F',DiskAt w' g F' (Z1d (Z0k S.disk (atH S (l.take k))).1 ((2+ro+xa:Nat):Int) xd).1/\Keeps (fun i=>(F1 i/\i<W1.heap.size)/\i≠s/\i≠m) F' W w'):=fun W hW=>by
    have h1:=Z4p ((2+ro+xa:Nat):Int) xd W (HS1.out.diskF.ext hW) (by
     have h1:=Z4b (atH S (l.take k)) S.disk;have h2:(atH S (l.take k)).length<=n:=by unfold atH;rw[List.length_map,aD,HN.out];omega
     have h3:=HLT.out;dsimp only;omega)
    have e:(2+(ro:Int)+xa)=((2+ro+xa:Nat):Int):=by omega
    rw[e];exact h1
   have HWR:Hid (IntKind.i64.wrap (IntKind.i64.wrap (2+(ro:Int))+(xa:Int))=2+(ro:Int)+xa):=U2p ro xa hro (by omega);have HIO:=hD HI.out.ok;have HWS:Hid (Z0k S.disk (atH S (l.take (k+1)))=Z1d (Z0k S.disk (atH S (l.take k))).1 ((2+ro+xa:Nat):Int) xd):=by
    unfold Hid;rw[HST.out,Z2p,if_pos HIO.out,Z4c];split<;>rename_i hz
    ·rw[Z0k];exact Prod.ext rfl hz.symm
    ·rfl
   rw[<-HWS.out]at cW
   go_quiet (fail)
   go_upto_region 6 with fail;generalize hW2:World.drewN W1 _=W2;have HW2:Hid (Ext W1 W2):=by subst hW2;exact Ext.drewN (Ext.refl _) _
   clear hW2 d0 d3 d4 dx dy;refine wp_region_held_drew (S:=fun W=>W.cell? ⟨s,0,none⟩=some (tp g)/\W.cell? ⟨s,3,none⟩=some (.int .i64 ro)/\W.cell? ⟨s,4,none⟩=some (.int .i64 pa)/\W.cell? ⟨wr.heap.size,0,none⟩=some (.int .i64 xa)/\W.cell? ⟨wr.heap.size,1,none⟩=some (.string xd)) (by kernel_rfl) (HKS.out _ (Only.of (Ext.trans HW2.out (by exact Xt)))) (fun hHeld=> ?_);refine' tk 0 ?_;refine' tk 1 ?_;refine' tk 2 ?_;refine' tk 3 ?_;refine' tk 4 ?_;refine' tk 5 ?_;refine' tk 6 ?_;refine' tk 7 ?_;refine' tk 8 ?_;refine' tk 9 ?_;refine' tk 10 ?_;refine' tk 11 ?_;refine' tk 12 ?_;refine' tk 13 ?_;refine' tk 14 ?_;refine stp 15 (fun K hK=> ?_);go_simp;rw[HWR.out]
   (with_reducible refine(cW.out _ (Ext.trans HW2.out (by exact Xt))).mono ?_)
   rintro e w2 ⟨rfl,F2,hd2,hk2⟩;have HB0:Hid (Ext W1 (World.drew W2)):=Ext.trans HW2.out (by exact Xt);have HB:Hid (Only (fun i=>(F1 i/\i<W1.heap.size)/\i≠s/\i≠m) W1 w2):=(Only.of HB0.out).trans' hk2.only;have HK2:Hid (Keeps (fun i=>(F1 i/\i<W1.heap.size)/\i≠s/\i≠m) F2 W1 w2):=Keeps.trans (Keeps.of HB0.out) hk2;have HD2:=hD hd2;clear hd2 hk2
   (try dsimp only)
   (try go_simp)
   refine hK.out _ _ (HKS.out _ HB.out) (fun hHeld=> ?_);clear hK K;refine pt ?_;refine' tk 16 ?_;refine wpAnyH_done (by kernel_rfl) ?_ _;have HST2:=hD (StoreAs.disked HS1.out HD2.out HK2.out (by rw[Z2t,Z2t]));have HKK:Hid (Keeps F (fun i=>i=s\/i=m\/F2 i) w w2):=(HK1.out.ext HW1.out.1).trans HST2.out.2;clear cW;obtain⟨R,hR⟩:∃R,(Z0k S.disk (atH S (l.take (k+1)))).2=R:=⟨_,rfl⟩;rw[hR];by_cases hR0:R=0
   ·subst hR0;have HIN:Hid (HomeI w s g m F S (atH S (l.take (k+1))) w2):=⟨hR,_,HST2.out.1.shrink,HKK.out.shrink,fun i q=>q.2⟩;clear hR;go_wp2_with fail
    go_roundw
    case measure=>simp[intOf];omega
    case rel=>exact⟨k+1,by omega,by go_num,HIN.out⟩
   ·have q1:¬R=0:=hR0;have q3:(R !=0)=true:=by simpa using hR0
    have q4:decide (R=0)=false:=decide_eq_false hR0;have HALL:Hid (Z0k S.disk (atH S l)=Z0k S.disk (atH S (l.take (k+1)))):=by
     unfold Hid;have e:atH S l=atH S (l.take (k+1))++atH S (l.drop (k+1)):=by unfold atH;rw[<-List.map_append,List.take_append_drop]
     rw[e,Z2p,if_neg (by rw[hR];exact hR0)]
    have HHS:Hid (Y1t S l=({ S with disk:=(Z0k S.disk (atH S (l.take (k+1)))).1},R)):=by unfold Hid Y1t;rw[HALL.out,if_pos (by rw[hR];exact hR0),hR]
    clear hR;go_wp2_with fail;go_ret;rw[HHS.out];exact⟨rfl,_,⟨g,m,HST2.out.1⟩,HKK.out⟩
  ·obtain rfl:k=n:=by omega
   have hd:decide ((k:Int)<(k:Int))=false:=by simp
   have HTK:Hid (l.take k=l):=by unfold Hid;rw[<-HN.out];exact List.take_length
   rw[HTK.out]at HI H1;have HZ:=hD HI.out.ok;obtain⟨Dn,hDn⟩:∃Dn,(Z0k S.disk (atH S l)).1=Dn:=⟨_,rfl⟩;have HLD:Hid (Dn.late.length<=200000000/\Dn.blocks.length=S.disk.blocks.length):=by
    unfold Hid;rw[<-hDn];refine⟨?_,Z2t _ _⟩;have h1:=Z4b (atH S l) S.disk;have h2:(atH S l).length=k:=by unfold atH;rw[List.length_map,HN.out]
    have h3:=HLT.out;omega
   rw[hDn]at H1;have HHO:Hid (Y1t S l=if(Z0v Dn).2≠0 then({ S with disk:=(Z0v Dn).1},(Z0v Dn).2)else(Z7c { S with disk:=(Z0v Dn).1} 0,(putD (Z0v Dn).1 (Z1i S.head 0)).2)):=by unfold Hid Y1t;rw[if_neg (fun q=>q HZ.out),hDn]
   clear hDn;have cF:=Z6m wr H1.out.diskF;dsimp only at cF;have HFB:=hD (Z4v Dn);have HFT:=hD (Z9f Dn);obtain⟨D2,R,hR⟩:∃D2 R,Z0v Dn=(D2,R):=⟨_,_,rfl⟩;rw[hR]at cF HHO HFB HFT;dsimp only at cF HHO HFB HFT;have c0:wr.cell? ⟨s,0,none⟩=some (tp g):=H1.out.row.cell 0;have HFI:Hid (FitsH D2.blocks.length (Z1i S.head 0)):=by unfold Hid;have hf:=HF.out;have hs:=HSQ.out;rw[HFB.out,HLD.out.2];exact⟨⟨hs,by simp[Z1i],hf.ok.room,hf.ok.pages⟩,hf.room,hf.pages,hf.most,Nat.zero_le _,hf.fits⟩
   have HLL:Hid (D2.late.length+1<=1000000000):=by unfold Hid;have h1:=HFT.out;have h2:=HLD.out.1;omega
   clear hR;by_cases hR0:R=0
   ·subst hR0;rw[if_neg (fun q=>q rfl)]at HHO;go_wp2_with (first
     | (go_at_call 160;refine cF.mono ?_;clear cF;rintro e w3 ⟨rfl,hd3,hk3⟩;have HS3:=hD (StoreAs.disked H1.out hd3 ⟨hk3,fun _ q=> .inl q⟩ HFB.out);clear hd3 hk3)
     | (go_at_call 165;refine(X4b 0 w3 ⟨g,m,HS3.out.1⟩ HFI.out HLL.out).mono ?_;rintro e w4 ⟨rfl,F4,hs4,hk4⟩;have HS4:=hD hs4;have HK4:=hD ((HK1.out.trans HS3.out.2).trans hk4);clear hs4 hk4))
    go_ret;rw[HHO.out];exact⟨rfl,F4,HS4.out,HK4.out⟩
   ·rw[if_pos hR0]at HHO;have q1:¬R=0:=hR0;have q3:(R !=0)=true:=by simpa using hR0
    have q4:decide (R=0)=false:=decide_eq_false hR0;go_wp2_with (go_at_call 160;refine cF.mono ?_;clear cF;rintro e w3 ⟨rfl,hd3,hk3⟩;have HS3:=hD (StoreAs.disked H1.out hd3 ⟨hk3,fun _ q=> .inl q⟩ HFB.out);clear hd3 hk3);go_ret;rw[HHO.out];exact⟨rfl,_,⟨g,m,HS3.out.1⟩,HK1.out.trans HS3.out.2⟩
def jnlB(l:List ByteArray):List (Nat×ByteArray):=(List.range l.length).map fun i=>(2+i,l[i]?.getD zeroB)
theorem V2u(l:List ByteArray)(k:Nat)(h:k<l.length):jnlB (l.take (k+1))=jnlB (l.take k)++ [(2+k,l[k])]:=by
 unfold jnlB;rw[aD,aD,Nat.min_eq_left (by omega),Nat.min_eq_left (by omega),List.range_succ,List.map_append]
 congr 1
 ·apply List.map_congr_left;intro i hi;have hi:=List.mem_range.1 hi;rw[List.getElem?_take_of_lt (by omega),List.getElem?_take_of_lt hi]
 ·simp[List.getElem?_take_of_lt,aB h]
theorem X5f(l:List ByteArray):(jnlB l).length=l.length:=by simp[jnlB]
theorem V7s(l:List ByteArray)(j:Nat)(h:j<=l.length):(jnlB l).take j=jnlB (l.take j):=by unfold jnlB;rw[<-List.map_take,List.take_range,aD];apply List.map_congr_left;intro i hi;have:=List.mem_range.1 hi;rw[List.getElem?_take_of_lt (by omega)]
theorem Sl.onlyC{α:Type}{w w':World}{sz:Nat}{R:α->List Value->Prop}{v:Value}{xs:List α}{G:Nat->Prop}(h:Sl w sz R v xs)(ho:Only G w w')(hv:∀b,0<xs.length->v.ownBlock=some b->¬G b):Sl w' sz R v xs:=by obtain⟨A,c,rfl,h1,h2,h3⟩:=h;refine⟨A,c,rfl,h1,h2,fun hn=> ?_⟩;obtain⟨b,off,rfl,hb,hx⟩:=h3 hn;refine⟨b,off,rfl,aE hb ho.size,fun i x hi=> ?_⟩;obtain⟨cs,hr,hl,hcs⟩:=hx i x hi;exact⟨cs,hr,hl,fun j u hu=>(ho.cell hb (hv b hn rfl)).trans (hcs j u hu)⟩
theorem V0y(D:DiskD)(h:HeadD):(putD D h).1.late.length<=D.late.length+1:=by
 unfold putD;split
 ·exact Z8x _ _ _
 ·exact Nat.le_trans (Z9f _) (Z8x _ _ _)
def Z2j(S:StoreD)(l:List (Nat×ByteArray)):StoreD×Int:=
 if(Z0k S.disk (jnlB (Z2e l))).2≠0 then({ S with disk:=(Z0k S.disk (jnlB (Z2e l))).1},(Z0k S.disk (jnlB (Z2e l))).2)
 else if(Z0v (Z0k S.disk (jnlB (Z2e l))).1).2≠0 then({ S with disk:=(Z0v (Z0k S.disk (jnlB (Z2e l))).1).1},(Z0v (Z0k S.disk (jnlB (Z2e l))).1).2)
 else if(putD (Z0v (Z0k S.disk (jnlB (Z2e l))).1).1 (Z1i S.head (Z2e l).length)).2≠0 then(Z7c { S with disk:=(Z0v (Z0k S.disk (jnlB (Z2e l))).1).1} (Z2e l).length,(putD (Z0v (Z0k S.disk (jnlB (Z2e l))).1).1 (Z1i S.head (Z2e l).length)).2)
 else Y1t (Z7c { S with disk:=(Z0v (Z0k S.disk (jnlB (Z2e l))).1).1} (Z2e l).length) l
theorem X8m{s:Nat}{F:Nat->Prop}{S:StoreD}(V:Value)(l:List (Nat×ByteArray))(w:World)(h:StoreAt w s F S)(hs:Sl w 2 RPg V l)(hV:∀b,V.ownBlock=some b->¬F b)(hp:∀p∈l,p.1<S.head.pages/\p.2.size<=256)(hl:l.length<=1024)(hlt:S.disk.late.length<=1000000)(hroom:hdsN l.length+l.length<=S.head.room)(hsq:S.head.seq+2<18446744073709551616):
  cQ 175 #[tp s,V] w fun e w'=>e= .returned (.int .i64 (Z2j S l).2)/\∃F',StoreAt w' s F' (Z2j S l).1/\Keeps F F' w w':=by
 obtain⟨g,m,h⟩:=h;have hft:=h.wf.fits;have cP:=V6q V l w hs hl (fun p q=>⟨by have:=(hp p q).1;have:=hft.most;omega,(hp p q).2⟩);have HH:=hD h;have HSL:=hD hs;have HV:=hD hV;have HP:=hD hp;have HF:=hD hft;have HSQ:=hD hsq;have HLT:=hD hlt;have HRO:=hD hroom;have HL:=hD hl;obtain⟨A,c,rfl⟩:=hs.form;have HPL:=hD (Y4d l);obtain⟨bl,hbl⟩:∃bl,Z2e l=bl:=⟨_,rfl⟩;have HBL:=hD hbl;rw[hbl]at cP;obtain⟨n,hn⟩:∃n,bl.length=n:=⟨_,rfl⟩;have HN:=hD hn;have hn2:n<=2048:=by rw[<-hn,<-hbl,Y4d];unfold hdsN;omega
 clear h hs hV hp hft hsq hlt hroom hl hbl hn;go_enter Tryz.func175,Tryz.ntmps175;go_wp2_with (go_at_call 208;refine cP.mono ?_;clear cP;rintro e w1 ⟨⟨v,rfl,hv⟩,hb1⟩;obtain⟨vA,vc,rfl⟩:=hv.form;rw[HN.out]at hv ⊢;have HX1:=hD hb1;have HV1:=hD hv;clear hb1 hv);have HI0:Hid (HomeI w1 s g m (fun i=>F i/\i<w.heap.size) S (jnlB (bl.take 0)) w1):=⟨rfl,fun i=>F i/\i<w.heap.size,(HH.out.shrink).ext HX1.out,Keeps.refl,fun i q=>aE q.2 HX1.out.size⟩;have HA:=hD ((HV1.out.sl (R:=fun x cs=>cs=encS x) Z0d (fun _=>rfl)).at.2.2.2);have HVF:=hD HV1.out.lt
 go_loopw [22] (fun i wr=>∃k:Nat,k<=n/\i= .int .i64 k/\HomeI w1 s g m (fun i=>F i/\i<w.heap.size) S (jnlB (bl.take k)) wr) (fun i _=>n-(intOf i).toNat)
 case atStart=>exact⟨0,by omega,rfl,HI0.out⟩
 case round=>
  obtain⟨k,hk,rfl,hi⟩:=hrel;have HI:=hD hi;obtain⟨F1,hs1,hk1,hb1⟩:=hi.ex;have H1:=hD hs1;have HK1:=hD hk1;have HB1:=hD hb1;clear hi hs1 hk1 hb1;by_cases hlt:k<n
  ·have hkl:k<bl.length:=by rw[HN.out];exact hlt
   have hd:decide ((k:Int)<(n:Int))=true:=by simp;omega
   have HST:=hD (V2u bl k hkl);obtain⟨b,off,rfl,hbb,hx⟩:=HA.out (by omega);obtain⟨cs,rfl,_,hcs⟩:=hx k hkl;have hnF:¬(F b/\b<w.heap.size):=fun q=>by have:=(HVF.out b rfl).1;omega
   have e0:wr.cell? ⟨b,off+k*1,none⟩=some (.string bl[k]):=(HK1.out.only.cell hbb hnF).trans (hcs 0 _ rfl);rw[Nat.mul_one]at e0;generalize bl[k]=x at *;clear hx hcs hnF;have hbw:=aE hbb HK1.out.only.size;have c0:wr.cell? ⟨s,0,none⟩=some (tp g):=H1.out.row.cell 0;have HIO:=hD HI.out.ok;have HWS:Hid (Z0k S.disk (jnlB (bl.take (k+1)))=Z1d (Z0k S.disk (jnlB (bl.take k))).1 ((2+k:Nat):Int) x):=by
    unfold Hid;rw[HST.out,Z2p,if_pos HIO.out,Z4c];split<;>rename_i hz
    ·rw[Z0k];exact Prod.ext rfl hz.symm
    ·rfl
   have cW:=Z4p ((2+k:Nat):Int) x wr H1.out.diskF (by
    have h1:=Z4b (jnlB (bl.take k)) S.disk;have h2:(jnlB (bl.take k)).length<=n:=by rw[X5f,aD,HN.out];omega
    have h3:=HLT.out;dsimp only;omega)
   dsimp only at cW;rw[<-HWS.out,show((2+k:Nat):Int)=2+(k:Int)by omega]at cW;have HWB:Hid ((Z0k S.disk (jnlB (bl.take (k+1)))).1.blocks.length=(Z0k S.disk (jnlB (bl.take k))).1.blocks.length):=by unfold Hid;rw[Z2t,Z2t]
   obtain⟨D2,R,hR⟩:∃D2 R,Z0k S.disk (jnlB (bl.take (k+1)))=(D2,R):=⟨_,_,rfl⟩;rw[hR]at cW HWB;dsimp only at cW HWB;have HRR:=hD hR;clear hR;by_cases hR0:R=0
   ·subst hR0;go_wp2_with (go_at_call 114;refine cW.mono ?_;clear cW;rintro e w3 ⟨rfl,F2,hd3,hk3⟩;have HS3:=hD (StoreAs.disked H1.out hd3 hk3 HWB.out);clear hd3 hk3)
    go_roundw
    case measure=>simp[intOf];omega
    case rel=>exact⟨k+1,by omega,by go_num,⟨by rw[HRR.out],_,by rw[HRR.out];exact HS3.out.1.shrink,(HK1.out.trans HS3.out.2).shrink,fun i q=>q.2⟩⟩
   ·have q1:¬R=0:=hR0;have q3:(R !=0)=true:=by simpa using hR0
    have q4:decide (R=0)=false:=decide_eq_false hR0;have HALL:Hid (Z0k S.disk (jnlB (Z2e l))=(D2,R)):=by unfold Hid;rw[HBL.out,<-List.take_append_drop (k+1) (jnlB bl),V7s bl (k+1) (by omega),Z2p,if_neg (by rw[HRR.out];exact hR0),HRR.out]
    have HCS:Hid (Z2j S l=({ S with disk:=D2},R)):=by unfold Hid Z2j;rw[HALL.out,if_pos hR0]
    go_wp2_with (go_at_call 114;refine cW.mono ?_;clear cW;rintro e w3 ⟨rfl,F2,hd3,hk3⟩;have HS3:=hD (StoreAs.disked H1.out hd3 hk3 HWB.out);clear hd3 hk3);go_ret;rw[HCS.out];exact⟨rfl,_,⟨g,m,HS3.out.1⟩,(((Keeps.of HX1.out).trans HK1.out).trans HS3.out.2).widen (fun i q=>q.1)⟩
  ·obtain rfl:k=n:=by omega
   have hd:decide ((k:Int)<(k:Int))=false:=by simp
   have HTK:Hid (bl.take k=bl):=by unfold Hid;rw[<-HN.out];exact List.take_length
   rw[HTK.out]at HI H1;have HZ:=hD HI.out.ok;obtain⟨Dn,hDn⟩:∃Dn,(Z0k S.disk (jnlB bl)).1=Dn:=⟨_,rfl⟩;have HLD:Hid (Dn.late.length<=2000000/\Dn.blocks.length=S.disk.blocks.length):=by
    unfold Hid;rw[<-hDn];refine⟨?_,Z2t _ _⟩;have h1:=Z4b (jnlB bl) S.disk;have h2:(jnlB bl).length=k:=by rw[X5f,HN.out]
    have h3:=HLT.out;omega
   rw[hDn]at H1;have HCO:Hid (Z2j S l=if(Z0v Dn).2≠0 then({ S with disk:=(Z0v Dn).1},(Z0v Dn).2)else if(putD (Z0v Dn).1 (Z1i S.head k)).2≠0 then(Z7c { S with disk:=(Z0v Dn).1} k,(putD (Z0v Dn).1 (Z1i S.head k)).2)else Y1t (Z7c { S with disk:=(Z0v Dn).1} k) l):=by unfold Hid Z2j;rw[HBL.out,if_neg (fun q=>q HZ.out),hDn,HN.out]
   clear hDn;have cF:=Z6m wr H1.out.diskF;dsimp only at cF;have HFB:=hD (Z4v Dn);have HFT:=hD (Z9f Dn);obtain⟨D2,R,hR⟩:∃D2 R,Z0v Dn=(D2,R):=⟨_,_,rfl⟩;rw[hR]at cF HCO HFB HFT;dsimp only at cF HCO HFB HFT;have c0:wr.cell? ⟨s,0,none⟩=some (tp g):=H1.out.row.cell 0;clear hR;by_cases hR0:R=0
   ·subst hR0;rw[if_neg (fun q=>q rfl)]at HCO;have HKR:Hid (k<=S.head.room/\k<=2048):=by unfold Hid;have h1:=HRO.out;have h2:=HPL.out;rw[HBL.out,HN.out]at h2;omega
    have HFI:Hid (FitsH D2.blocks.length (Z1i S.head k)):=by unfold Hid;have hf:=HF.out;have hs:=HSQ.out;have hk:=HKR.out;rw[HFB.out,HLD.out.2];exact⟨⟨by simp[Z1i];omega,by simp[Z1i];omega,hf.ok.room,hf.ok.pages⟩,hf.room,hf.pages,hf.most,hk.1,hf.fits⟩
    have HLL:Hid (D2.late.length+1<=1000000000):=by unfold Hid;have h1:=HFT.out;have h2:=HLD.out.1;omega
    obtain⟨D3,R2,hR2⟩:∃D3 R2,putD D2 (Z1i S.head k)=(D3,R2):=⟨_,_,rfl⟩;rw[hR2]at HCO;dsimp only at HCO;have HSS:Hid (Z7c { S with disk:=D2} k=if R2=0 then { S with disk:=D3,head:=Z1i S.head k}else { S with disk:=D3}):=by unfold Hid Z7c;dsimp only;rw[hR2]
    have cS:Hid (∀W F',StoreAt W s F' { S with disk:=D2}->cQ 165 #[tp s,.int .i64 k] W fun e w'=>e= .returned (.int .i64 R2)/\∃F'',StoreAt w' s F'' (Z7c { S with disk:=D2} k)/\Keeps F' F'' W w'):=fun W F' h=>by have h1:=X4b k W h HFI.out HLL.out;dsimp only at h1;rw[hR2]at h1;exact h1
    have HL3:Hid (D3.late.length<=D2.late.length+1):=by unfold Hid;have h1:=V0y D2 (Z1i S.head k);rw[hR2]at h1;exact h1
    clear hR2;by_cases hz:R2=0
    ·subst hz;rw[if_neg (fun q=>q rfl)]at HCO;rw[if_pos rfl]at HSS;rw[HSS.out]at HCO cS;have cH:Hid (∀W F',StoreAt W s F' { S with disk:=D3,head:=Z1i S.head k}->Keeps (fun i=>F i/\i<w.heap.size) F' w W->cQ 118 #[tp s,.slice A l.length c] W fun e w'=>e= .returned (.int .i64 (Z2j S l).2)/\∃F'',StoreAt w' s F'' (Z2j S l).1/\Keeps F' F'' W w'):=fun W F' h1 h2=>by rw[HCO.out];refine V8a (.slice A l.length c) l W h1 (HSL.out.onlyC h2.only (fun b _ hb q=>HV.out b hb q.1)) (fun b hl0 hb=> ?_) (fun p q=>(HP.out p q).1) (by have:=HL.out;omega) (by have h3:=HL3.out;have h4:=HFT.out;have h5:=HLD.out.1;dsimp only;omega) (by have:=HSQ.out;simp[Z1i];omega);obtain⟨b',off,e,hb',_⟩:=HSL.out.at.2.2.2 hl0;subst e;have e:b'=b:=Option.some.inj hb;exact h2.out (by omega) (fun q=>HV.out b hb q.1)
     go_wp2_with (first
      | (go_at_call 160;refine cF.mono ?_;clear cF;rintro e w3 ⟨rfl,hd3,hk3⟩;have HS3:=hD (StoreAs.disked H1.out hd3 ⟨hk3,fun _ q=> .inl q⟩ HFB.out);clear hd3 hk3)
      | (go_at_call 165;refine(cS.out w3 _ ⟨g,m,HS3.out.1⟩).mono ?_;clear cS;rintro e w4 ⟨rfl,F4,hs4,hk4⟩;have HS4:=hD hs4;have HK4:=hD ((((Keeps.of HX1.out).trans HK1.out).trans HS3.out.2).trans hk4);clear hs4 hk4)
      | (go_at_call 118;refine(cH.out w4 _ HS4.out HK4.out).mono ?_;clear cH;rintro e w5 ⟨rfl,F5,hs5,hk5⟩;have HS5:=hD hs5;have HK5:=hD (HK4.out.trans hk5);clear hs5 hk5))
     go_ret;exact⟨rfl,F5,HS5.out,HK5.out.widen (fun i q=>q.1)⟩
    ·rw[if_pos hz]at HCO;have q1:¬R2=0:=hz;have q3:(R2 !=0)=true:=by simpa using hz
     have q4:decide (R2=0)=false:=decide_eq_false hz;go_wp2_with (first
      | (go_at_call 160;refine cF.mono ?_;clear cF;rintro e w3 ⟨rfl,hd3,hk3⟩;have HS3:=hD (StoreAs.disked H1.out hd3 ⟨hk3,fun _ q=> .inl q⟩ HFB.out);clear hd3 hk3)
      | (go_at_call 165;refine(cS.out w3 _ ⟨g,m,HS3.out.1⟩).mono ?_;clear cS;rintro e w4 ⟨rfl,F4,hs4,hk4⟩;have HS4:=hD hs4;have HK4:=hD hk4;clear hs4 hk4))
     go_ret;rw[HCO.out];exact⟨rfl,F4,HS4.out,((((Keeps.of HX1.out).trans HK1.out).trans HS3.out.2).trans HK4.out).widen (fun i q=>q.1)⟩
   ·rw[if_pos hR0]at HCO;have q1:¬R=0:=hR0;have q3:(R !=0)=true:=by simpa using hR0
    have q4:decide (R=0)=false:=decide_eq_false hR0;go_wp2_with (go_at_call 160;refine cF.mono ?_;clear cF;rintro e w3 ⟨rfl,hd3,hk3⟩;have HS3:=hD (StoreAs.disked H1.out hd3 ⟨hk3,fun _ q=> .inl q⟩ HFB.out);clear hd3 hk3);go_ret;rw[HCO.out];exact⟨rfl,_,⟨g,m,HS3.out.1⟩,(((Keeps.of HX1.out).trans HK1.out).trans HS3.out.2).widen (fun i q=>q.1)⟩
structure Pow (D:DiskD):Prop where
 live:D.dead=false
 left:D.left= -1
theorem Y6e{D:DiskD}(h:Pow D){n:Int}(h0:0<=n)(h1:n<D.blocks.length):Z4j D n=0:=by unfold Z4j;rw[if_neg (by rw[h.live];simp),if_neg (by omega)]
theorem X3v{D:DiskD}(h:Pow D):useD D=(D,0):=by unfold useD;rw[if_neg (by rw[h.left];simp),if_neg (by rw[h.left];simp)]
theorem Y5s{D:DiskD}(h:Pow D){n:Nat}{s:ByteArray}(h1:n<D.blocks.length)(hs:s.size<=256):Z1d D n s=({ D with late:=D.late++ [(n,padB s)]},0):=by unfold Z1d;rw[Y6e h (by omega) (by omega),if_neg (by simp),if_neg (by omega),X3v h,if_neg (by simp)];rfl
theorem Z8o{D:DiskD}(h:Pow D)(h1:0<D.blocks.length):Z0v D=({ D with blocks:=layB D.late D.blocks,late:= []},0):=by unfold Z0v;rw[Y6e h (by omega) (by omega),if_neg (by simp),X3v h,if_neg (by simp)]
theorem Z8w:∀(l:List (Nat×ByteArray)) (D:DiskD),Pow D->(∀p∈l,p.1<D.blocks.length/\p.2.size<=256)->Z0k D l=({ D with late:=D.late++l.map (fun p=>(p.1,padB p.2))},0)
 | [],D,_,_=>by simp[Z0k]
 | p::r,D,h,hp=>by have h1:=hp p (by simp);rw[Z4c,Y5s h h1.1 h1.2,if_pos rfl];refine(Z8w r { D with late:=D.late++ [(p.1,padB p.2)]} ⟨h.live,h.left⟩ (fun q hq=>hp q (by simp[hq]))).trans ?_;simp
theorem V2k(n:Nat)(a b:List (Nat×ByteArray))(s:ByteArray):Z2z n (a++b) s=Z2z n b (Z2z n a s):=by unfold Z2z;rw[List.foldl_append]
theorem Z5w(n:Nat):∀(l:List (Nat×ByteArray)) (s:ByteArray),(∀p∈l,p.1≠n)->Z2z n l s=s
 | [],_,_=>rfl
 | p::r,s,h=>by have:Z2z n (p::r) s=Z2z n r (if p.1=n then p.2 else s):=rfl;rw[this,if_neg (h p (by simp)),Z5w n r s (fun q hq=>h q (by simp[hq]))]
theorem V7m(late:List (Nat×ByteArray)):∀(bs:List ByteArray) (n:Nat),n<bs.length->(layB late bs)[n]?.getD zeroB=Z2z n late (bs[n]?.getD zeroB):=by
 induction late with
 | nil=>intro bs n _;rfl
 | cons p r ih=>
   intro bs n hn;have e1:layB (p::r) bs=layB r (bs.set p.1 p.2):=rfl;have e2:Z2z n (p::r) (bs[n]?.getD zeroB)=Z2z n r (if p.1=n then p.2 else bs[n]?.getD zeroB):=rfl;rw[e1,e2,ih _ n (by simpa using hn)]
   congr 1
   rw[List.getElem?_set];split
   ·simp_all
   ·rfl
theorem Z7z{D:DiskD}(h:Pow D){n:Nat}(hn:n<D.blocks.length):Z0x (Z0v D).1 n=Z0x D n:=by rw[Z8o h (by omega)];unfold Z0x;dsimp only;rw[V7m _ _ _ hn];rfl
theorem Z9j(D:DiskD)(l:List (Nat×ByteArray))(n:Nat):Z0x { D with late:=D.late++l} n=Z2z n l (Z0x D n):=by unfold Z0x;dsimp only;rw[V2k]
structure PowAs (D D':DiskD):Prop where
 pow:Pow D'
 len:D'.blocks.length=D.blocks.length
 late:D'.late= []
theorem X4q{D:DiskD}(h:Pow D)(hl:2<=D.blocks.length)(H:HeadD):(putD D H).2=0/\PowAs D (putD D H).1/\∀n,2<=n->n<D.blocks.length->Z0x (putD D H).1 n=Z0x D n:=by
 have hm:H.seq%2<2:=Nat.mod_lt _ (by omega);have hw:=Y5s h (n:=H.seq%2) (s:=Z5z H) (by omega) (by rw[Z8n];omega);have hP:Pow { D with late:=D.late++ [(H.seq%2,padB (Z5z H))]}:=⟨h.live,h.left⟩;have hf:=Z8o hP (by dsimp only;omega);have e:putD D H=Z0v { D with late:=D.late++ [(H.seq%2,padB (Z5z H))]}:=by unfold putD;rw[hw,if_neg (by simp)]
 rw[e];refine⟨by rw[hf],⟨by rw[hf];exact⟨h.live,h.left⟩,by rw[Z4v],by rw[hf]⟩,fun n h2 hn=> ?_⟩;rw[Z7z hP (by dsimp only;exact hn),Z9j,Z5w _ _ _ (by intro p hp;simp at hp;subst hp;dsimp only;omega)]
theorem V3d{S:StoreD}{l:List (Nat×ByteArray)}(h:Pow S.disk)(hf:FitsH S.disk.blocks.length S.head)(hp:∀p∈l,p.1<S.head.pages/\p.2.size<=256):
  (Y1t S l).2=0/\∃D',(Y1t S l).1= { S with disk:=D',head:=Z1i S.head 0}/\PowAs S.disk D'/\∀n,n<S.head.pages->Z0x D' (2+S.head.room+n)=Z2z n (l.map fun p=>(p.1,padB p.2)) (Z0x S.disk (2+S.head.room+n)):=by
 have hfi:=hf.fits;have hpg:=hf.pages;have hw:=Z8w (atH S l) S.disk h (by
  intro q hq;obtain⟨p,hpl,rfl⟩:=List.mem_map.1 hq;have:=hp p hpl;dsimp only;exact⟨by omega,this.2⟩)
 have hP1:Pow { S.disk with late:=S.disk.late++(atH S l).map (fun p=>(p.1,padB p.2))}:=⟨h.live,h.left⟩;have hfl:=Z8o hP1 (by dsimp only;omega);obtain⟨D2,hD2⟩:∃D2,(Z0v { S.disk with late:=S.disk.late++(atH S l).map (fun p=>(p.1,padB p.2))}).1=D2:=⟨_,rfl⟩;have hz:(Z0v { S.disk with late:=S.disk.late++(atH S l).map (fun p=>(p.1,padB p.2))}).2=0:=by rw[hfl]
 have hP2:Pow D2:=by rw[<-hD2,hfl];exact⟨h.live,h.left⟩
 have hL2:D2.blocks.length=S.disk.blocks.length:=by rw[<-hD2,Z4v]
 obtain⟨hq,hA,hB⟩:=X4q hP2 (by omega) (Z1i S.head 0);have e:Y1t S l=(Z7c { S with disk:=D2} 0,0):=by unfold Y1t;rw[hw];dsimp only;rw[if_neg (fun q=>q rfl),if_neg (fun q=>q hz),hD2,hq]
 have e2:Z7c { S with disk:=D2} 0= { S with disk:=(putD D2 (Z1i S.head 0)).1,head:=Z1i S.head 0}:=by unfold Z7c;dsimp only;rw[if_pos hq]
 rw[e];refine⟨rfl,_,e2,⟨hA.pow,hA.len.trans hL2,hA.late⟩,fun n hn=> ?_⟩;rw[hB _ (by omega) (by omega),<-hD2,Z7z hP1 (by dsimp only;omega),Z9j];generalize Z0x S.disk (2+S.head.room+n)=s;unfold atH;clear e e2 hw hfl hD2 hz hP1 hP2 hL2 hA hB hq hp
 induction l generalizing s with
 | nil=>rfl
 | cons p r ih=>
   have e1:∀(k:Nat) (q:Nat×ByteArray) (m:List (Nat×ByteArray)) (s:ByteArray),Z2z k (q::m) s=Z2z k m (if q.1=k then q.2 else s):=fun _ _ _ _=>rfl;simp only[List.map_cons,e1];have e2:(if 2+S.head.room+p.1=2+S.head.room+n then padB p.2 else s)=(if p.1=n then padB p.2 else s):=by
    by_cases q:p.1=n
    ·rw[if_pos q,if_pos (by omega)]
    ·rw[if_neg q,if_neg (by omega)]
   rw[e2];exact ih _
theorem X7k{l:List (Nat×ByteArray)}(hp:∀p∈l,p.2.size<=256):∀b∈Z2e l,b.size=256:=by
 intro b hb;unfold Z2e Y4z at hb;rcases List.mem_append.1 hb with hb | hb
 ·obtain⟨i,_,rfl⟩:=List.mem_map.1 hb;exact Z7h _ (by rw[Z0e,aD];omega)
 ·obtain⟨p,hpl,rfl⟩:=List.mem_map.1 hb;exact Z7h _ (hp p hpl)
theorem V7t{l:List ByteArray}{q:Nat×ByteArray}(h:q∈jnlB l):q.1<2+l.length/\q.2∈l:=by obtain⟨i,hi,rfl⟩:=List.mem_map.1 h;have hi:=List.mem_range.1 hi;refine⟨by dsimp only;omega,?_⟩;dsimp only;rw[aB hi];exact List.getElem_mem hi
theorem X3e{S:StoreD}{l:List (Nat×ByteArray)}(h:Pow S.disk)(hf:FitsH S.disk.blocks.length S.head)(hp:∀p∈l,p.1<S.head.pages/\p.2.size<=256)(hroom:hdsN l.length+l.length<=S.head.room)(hsq:S.head.seq+1<18446744073709551616):
  (Z2j S l).2=0/\∃D',(Z2j S l).1= { S with disk:=D',head:=Z1i (Z1i S.head (Z2e l).length) 0}/\PowAs S.disk D'/\∀n,n<S.head.pages->Z0x D' (2+S.head.room+n)=Z2z n (l.map fun p=>(p.1,padB p.2)) (Z0x S.disk (2+S.head.room+n)):=by
 have hfi:=hf.fits;have hpg:=hf.pages;have hlen:=Y4d l;have hmem:∀q∈jnlB (Z2e l),q.1<2+S.head.room/\q.2.size<=256:=fun q hq=>by have h1:=V7t hq;have h2:=X7k (fun p q=>(hp p q).2) _ h1.2;omega
 have hw:=Z8w (jnlB (Z2e l)) S.disk h (fun q hq=>by have:=hmem q hq;omega);have hP1:Pow { S.disk with late:=S.disk.late++(jnlB (Z2e l)).map (fun p=>(p.1,padB p.2))}:=⟨h.live,h.left⟩;have hfl:=Z8o hP1 (by dsimp only;omega);obtain⟨D2,hD2⟩:∃D2,(Z0v { S.disk with late:=S.disk.late++(jnlB (Z2e l)).map (fun p=>(p.1,padB p.2))}).1=D2:=⟨_,rfl⟩;have hz:(Z0v { S.disk with late:=S.disk.late++(jnlB (Z2e l)).map (fun p=>(p.1,padB p.2))}).2=0:=by rw[hfl]
 have hP2:Pow D2:=by rw[<-hD2,hfl];exact⟨h.live,h.left⟩
 have hL2:D2.blocks.length=S.disk.blocks.length:=by rw[<-hD2,Z4v]
 obtain⟨hq,hA,hB⟩:=X4q hP2 (by omega) (Z1i S.head (Z2e l).length);obtain⟨D3,hD3⟩:∃D3,(putD D2 (Z1i S.head (Z2e l).length)).1=D3:=⟨_,rfl⟩;rw[hD3]at hA hB;have e2:Z7c { S with disk:=D2} (Z2e l).length= { S with disk:=D3,head:=Z1i S.head (Z2e l).length}:=by unfold Z7c;dsimp only;rw[if_pos hq,hD3]
 have e:Z2j S l=Y1t { S with disk:=D3,head:=Z1i S.head (Z2e l).length} l:=by unfold Z2j;rw[hw];dsimp only;rw[if_neg (fun q=>q rfl),if_neg (fun q=>q hz),hD2,if_neg (fun q=>q hq),e2]
 have hL3:=hA.len.trans hL2;obtain⟨h1,D',h2,h3,h4⟩:=V3d (S:= { S with disk:=D3,head:=Z1i S.head (Z2e l).length}) (l:=l) hA.pow
  (by dsimp only;rw[hL3];exact⟨⟨hsq,by have:=hf.ok.room;simp[Z1i];omega,hf.ok.room,hf.ok.pages⟩,hf.room,hf.pages,hf.most,by simp[Z1i];omega,hf.fits⟩) hp
 rw[e];refine⟨h1,D',h2,⟨h3.pow,h3.len.trans hL3,h3.late⟩,fun n hn=> ?_⟩;have h5:=h4 n hn;dsimp only[Z1i]at h5;rw[h5,hB _ (by omega) (by omega),<-hD2,Z7z hP1 (by dsimp only;omega),Z9j]
 congr 1
 refine Z5w _ _ _ (fun p hp=> ?_);obtain⟨q,hq,rfl⟩:=List.mem_map.1 hp;have:=(hmem q hq).1;dsimp only;omega
theorem X0u(n:Nat)(b:ByteArray):∀(l:List (Nat×ByteArray)) (s:ByteArray),(∀p∈l,p.1=n->p.2=b)->(∃p∈l,p.1=n)->Z2z n l s=b
 | [],_,_,h=>by obtain⟨p,hp,_⟩:=h;cases hp
 | p::r,s,h,hx=>by
   have e:Z2z n (p::r) s=Z2z n r (if p.1=n then p.2 else s):=rfl;rw[e];by_cases q:∃p∈r,p.1=n
   ·exact X0u n b r _ (fun x hx=>h x (by simp[hx])) q
   ·rw[Z5w n r _ (fun x hx e=>q ⟨x,hx,e⟩)];obtain⟨y,hy,e2⟩:=hx;rcases List.mem_cons.1 hy with rfl | hy
    ·rw[if_pos e2];exact h y (by simp) e2
    ·exact absurd ⟨y,hy,e2⟩ q
def U2n(S:StoreD)(l:List (Nat×ByteArray)):Prop:=∀(n:Nat) b,(n,b)∈l↔S.dirty (n:Int)=some b
structure Cmtd (S S':StoreD):Prop where
 pages:S'.head.pages=S.head.pages
 room:S'.head.room=S.head.room
 seq:S'.head.seq<=S.head.seq+2
 clean:∀n:Nat,S'.dirty (n:Int)=none
 dead:S'.dead=false
 pow:Pow S'.disk
 late:S'.disk.late= []
 len:S'.disk.blocks.length=S.disk.blocks.length
 view:∀n,n<S.head.pages->Z1a S' n=Z1a S n
theorem V4r{S:StoreD}(hl:Live S)(hp:Pow S.disk)(h0:S.disk.late= [])(hd:∀n:Nat,S.dirty (n:Int)=none):Cmtd S S:=
 ⟨rfl,rfl,by omega,hd,hl.1,hp,h0,rfl,fun _ _=>rfl⟩
theorem V6o{b:ByteArray}(h:b.size=256):padB b=b:=by
 unfold padB;have e:zeroB.extract b.size 256=⟨#[]⟩:=by rw[ByteArray.ext_iff,ByteArray.data_extract,h];simp;omega
 rw[e,ByteArray.ext_iff,ByteArray.data_append];simp
theorem V4q{S:StoreD}{l:List (Nat×ByteArray)}(hp:Pow S.disk)(hf:FitsH S.disk.blocks.length S.head)(hw:∀x b,S.dirty x=some b->0<=x/\x<S.head.pages/\b.size=256)(hl:U2n S l)
 (hroom:hdsN l.length+l.length<=S.head.room)(hsq:S.head.seq+2<18446744073709551616):
  (Z2j { S with dirty:=X0m} l).2=0/\Cmtd S { (Z2j { S with dirty:=X0m} l).1 with dead:=false}:=by
 have hpl:∀p∈l,p.1<S.head.pages/\p.2.size<=256:=fun p hpm=>by obtain⟨n,b⟩:=p;have:=hw _ _ ((hl n b).1 hpm);dsimp only;omega
 obtain⟨h1,D',h2,h3,h4⟩:=X3e (S:= { S with dirty:=X0m}) (l:=l) hp hf hpl hroom (by dsimp only;omega);refine⟨h1,?_⟩;rw[h2];dsimp only at h4 ⊢;refine⟨rfl,rfl,?_,fun n=>rfl,rfl,h3.pow,?_,h3.len,fun n hn=> ?_⟩
 ·dsimp only[Z1i];omega
 ·exact h3.late
 ·have h5:=h4 n hn;show Z0x D' (2+S.head.room+n)=(S.dirty n).getD (Z0x S.disk (2+S.head.room+n));rw[h5];cases hd:S.dirty (n:Int)with
  | none=>
    refine Z5w _ _ _ (fun p hpm=> ?_);obtain⟨q,hq,rfl⟩:=List.mem_map.1 hpm;dsimp only;intro e;have:=(hl q.1 q.2).1 hq;rw[e,hd]at this;cases this
  | some b=>
    have hb:padB b=b:=V6o (hw _ _ hd).2.2;refine X0u n b _ _ (fun p hpm e=> ?_) ⟨(n,padB b),List.mem_map.2 ⟨(n,b),(hl n b).2 hd,rfl⟩,rfl⟩;obtain⟨q,hq,rfl⟩:=List.mem_map.1 hpm;dsimp only at e ⊢;have:=(hl q.1 q.2).1 hq;rw[e,hd]at this;injection this with this;rw[<-this];exact hb
def BX(w wr:World)(b B:Nat)(t:TypeId)(cs:List Value)(l:List UInt8):Prop:=
 ∃F:Nat->Prop,BldAt wr b F l/\(∀i,F i->w.heap.size<=i/\i≠B)/\Ext w wr/\Row1 wr B t cs
theorem BX.bstep{w wr w':World}{b B:Nat}{t:TypeId}{cs:List Value}{l':List UInt8}{F F':Nat->Prop}(hF:∀i,F i->w.heap.size<=i/\i≠B)(hx:Ext w wr)(hr:Row1 wr B t cs)(hb:BldAt w' b F' l')(hk:Keeps F F' wr w'):BX w w' b B t cs l':=by
 have hs:=hx.size;refine⟨F',hb,fun i q=> ?_,?_,hk.only.row hr (fun q=>(hF _ q).2 rfl)⟩
 ·rcases hk.new i q with q | q
  ·exact hF i q
  ·have:=hr.lt;omega
 ·refine Only.toExt (F:=fun i=>w.heap.size<=i) ?_ (fun i q=>q);exact(Only.of hx).trans' (hk.only.mono (fun i q=> .inl (hF i q).1))
theorem BX.ext{w W W':World}{b B:Nat}{t:TypeId}{cs:List Value}{l:List UInt8}(h:BX w W b B t cs l)(hx:Ext W W'):BX w W' b B t cs l:=by obtain⟨F,h1,h2,h3,h4⟩:=h;exact⟨F,h1.ext hx,h2,h3.trans hx,h4.ext hx h4.lt⟩
theorem V9d{w W:World}{b B:Nat}{t:TypeId}{cs:List Value}{l:List UInt8}(s:ByteArray)(hs:s.size<=1000000)(h:BX w W b B t cs l)(hl:l.length<=100000000):
  cQ 47 #[tp b,.string s] W fun e w'=>e= .returned (.tuple #[.int .i64 s.size,.nilIface])/\BX w w' b B t cs (l++s.data.toList):=by
 obtain⟨F,h1,h2,h3,h4⟩:=h;refine(Z6n s h1 (by omega)).mono ?_;rintro e w' ⟨rfl,F',q1,q2⟩;exact⟨rfl,BX.bstep h2 h3 h4 q1 q2⟩
theorem U2j{w W:World}{b B:Nat}{t:TypeId}{cs:List Value}{l:List UInt8}(h:BX w W b B t cs l)(h0:l≠ []):
  cQ 49 #[tp b] W fun e w'=>e= .returned (.string (bts l))/\Ext w w':=by
 obtain⟨F,h1,h2,h3,h4⟩:=h;refine(Z9k h1 h0).mono ?_;rintro e w' ⟨rfl,q2⟩;refine⟨rfl,Only.toExt (F:=fun i=>w.heap.size<=i) ?_ (fun i q=>q)⟩;exact(Only.of h3).trans' (q2.mono (fun i q=> .inl (h2 i q).1))
def opP(o:OpD)(k:Nat):List UInt8:=((opV o).take k).flatMap (fun n=>varL n.toNat)
theorem V6z(o:OpD)(k:Nat)(n:Int)(h:(opV o)[k]? =some n):opP o (k+1)=opP o k++varL n.toNat:=by unfold opP;rw[List.take_add_one,h,aH];simp
theorem V1r{o:OpD}(h:OpIn o)(k:Nat):(opP o k).length<=100:=by
 have h1:=Y2g ((opV o).take k) (fun n hn=>h.nums n (List.mem_of_mem_take hn));have h2:((opV o).take k).length<=8:=by rw[aD];exact Nat.min_le_right _ _
 unfold opP;omega
theorem Z7j(o:OpD)(w:World)(hr: -9223372036854775808<=o.result/\o.result<=9223372036854775807):
  cQ 131 #[o.val] w fun e w'=>e= .returned (.tuple #[.string (if Z1p o=0 then bts (opL o)else⟨#[]⟩),.int .i64 (Z1p o)])/\Ext w w':=by
 have cC:Hid (∀W,cQ 147 #[.agg #[.int .i64 o.id,.int .i64 o.proc,.int .i64 o.object,.int .i64 o.kind,.int .i64 o.method,.int .i64 o.arg,.int .i64 o.second,.bool o.done,.int .i64 o.result,.int .i64 o.invoke,.int .i64 o.ret]] W fun e w'=>e= .returned (.int .i64 (Z1p o))/\Ext W w'):=fun W=>Y4g o W hr;have HBX:Hid (∀W:World,Ext (w.alloc (.cells #[.int .i64 o.id,.int .i64 o.proc,.int .i64 o.object,.int .i64 o.kind,.int .i64 o.method,.int .i64 o.arg,.int .i64 o.second,.bool o.done,.int .i64 o.result,.int .i64 o.invoke,.int .i64 o.ret] 73)) W->At11 W w.heap.size o):=fun W h=>(At11.row (Row1.made w 73 o.cells)).ext h (by simp);have HIN:Hid (Z1p o=0->OpIn o):=OpIn.of;obtain⟨c,hc⟩:∃c,Z1p o=c:=⟨_,rfl⟩;rw[hc]at cC HIN;rw[hc];clear hc hr;by_cases h0:c=0
 ·subst h0;rw[if_pos rfl];have HI:=hD (HIN.out rfl);clear HIN;go_enter Tryz.func131,Tryz.ntmps131;go_upto_region 5 with (go_at_call 147;(with_reducible refine(cC.out _).mono ?_);clear cC;rintro e w1 ⟨rfl,hb1⟩;have HB1:=hD hb1;clear hb1);obtain⟨d0,d1,d2,d3,d4,d5,d6,d7,d8,d9,d10⟩:=HBX.out (w1.alloc (.cells #[.pointer none,.slice none 0 0] 108)) (HB1.out.trans (Ext.alloc _ _));have HBB:Hid (BX w1 ((w1.alloc (.cells #[.pointer none,.slice none 0 0] 108)).alloc (.cells #[.int .i64 o.id,.int .i64 o.proc,.int .i64 o.object,.int .i64 o.kind,.int .i64 o.method,.int .i64 o.arg,.int .i64 o.second,.int .i64 o.invoke] 3)) w1.heap.size (w1.heap.size+1) 3 ((opV o).map (fun n=>Value.int .i64 n)) (opP o 0)):=
   ⟨fun i=>i=w1.heap.size,(BldAt.made w1).ext (Ext.alloc _ _),fun i q=>by omega,(Ext.alloc _ _).trans (Ext.alloc _ _),Row1.made' (by simp) _ _⟩
  have cS:Hid (∀(s:ByteArray) (l:List UInt8) W,s.size<=1000000->BX w1 W w1.heap.size (w1.heap.size+1) 3 ((opV o).map (fun n=>Value.int .i64 n)) l->l.length<=100000000->cQ 47 #[tp w1.heap.size,.string s] W fun e w'=>e= .returned (.tuple #[.int .i64 s.size,.nilIface])/\BX w1 w' w1.heap.size (w1.heap.size+1) 3 ((opV o).map (fun n=>Value.int .i64 n)) (l++s.data.toList)):=fun s l W hs hb hl=>V9d s hs hb hl;have cV:Hid (∀(n:Nat) W,n<18446744073709551616->cQ 39 #[.int .u64 n] W fun e w'=>e= .returned (.string (bts (varL n)))/\Ext W w'):=fun n W hn=>U0d n W hn;have HVS:Hid (∀n,(bts (varL n)).size<=1000000):=fun n=>by have:=(Z8d n).2;rw[Z0e];omega
  go_wp2_with fail;clear d0 d1 d2 d3 d4 d5 d6 d7 d8 d9 d10
  go_loopw [31] (fun i wr=>∃k:Nat,k<=8/\i= .int .i64 k/\BX w1 wr w1.heap.size (w1.heap.size+1) 3 ((opV o).map (fun n=>Value.int .i64 n)) (opP o k)) (fun i _=>8-(intOf i).toNat)
  case atStart=>exact⟨0,by omega,rfl,HBB.out⟩
  case round=>
   obtain⟨k,hk,rfl,hbw⟩:=hrel;have HBW:=hD hbw;have hx1:Ext w1 wr:=hbw.choose_spec.2.2.1;have hrow:Row1 wr (w1.heap.size+1) 3 ((opV o).map (fun n=>Value.int .i64 n)):=hbw.choose_spec.2.2.2;clear hbw;by_cases hkl:k<8
   ·have q1:decide ((k:Int)<8)=true:=aN;have hkv:k<(opV o).length:=hkl;have c0:wr.cell? ⟨w1.heap.size+1,k,none⟩=some (.int .i64 (opV o)[k]):=by rw[hrow.cell k,List.getElem?_map,aB hkv];rfl
    have hin:=HI.out.nums _ (List.getElem_mem hkv);have HST:=hD (V6z o k _ (aB hkv));have hpl:=V1r HI.out k;have HROW:=hD hrow;have hgl:=hrow.lt;generalize (opV o)[k]=n at *;obtain⟨m,rfl⟩:∃m:Nat,n=m:=⟨n.toNat,by omega⟩;have hu:IntKind.u64.wrap (m:Int)=m:=by rw[IntKind.wrap_u64];omega
    have cV1:=cV.out m wr (by omega);have cS1:Hid (∀W,Ext wr W->cQ 47 #[tp w1.heap.size,.string (bts (varL m))] W fun e w'=>e= .returned (.tuple #[.int .i64 (bts (varL m)).size,.nilIface])/\BX w1 w' w1.heap.size (w1.heap.size+1) 3 ((opV o).map (fun n=>Value.int .i64 n)) (opP o (k+1))):=fun W hW=>by have h1:=cS.out (bts (varL m)) (opP o k) W (HVS.out m) (HBW.out.ext hW) (by omega);rw[Z1r]at h1;rw[HST.out];exact h1
    generalize bts (varL m)=bx at *;clear hx1 hrow hin HST cS;go_wp2_with (first
     | (go_at_call 39;(with_reducible refine cV1.mono ?_);clear cV1;rintro e w2 ⟨rfl,hb2⟩)
     | (go_at_call 47;(with_reducible refine(cS1.out _ hb2).mono ?_);clear cS1;rintro e w3 ⟨rfl,hb3⟩;have HB3:=hD hb3;clear hb3))
    go_roundw
    case rel=>exact⟨k+1,by omega,by go_num,HB3.out⟩
    case measure=>simp[intOf];omega
   ·obtain rfl:k=8:=by omega
    obtain⟨d0,d1,d2,d3,d4,d5,d6,d7,d8,d9,d10⟩:=HBX.out wr (HB1.out.trans hx1);have HX1:=hD hx1;have HE:Hid (opP o 8=(opV o).flatMap (fun n=>varL n.toNat)):=rfl;have cT:Hid (∀(l:List UInt8) W,BX w1 W w1.heap.size (w1.heap.size+1) 3 ((opV o).map (fun n=>Value.int .i64 n)) l->l=opL o->cQ 49 #[tp w1.heap.size] W fun e w'=>e= .returned (.string (bts (opL o)))/\Ext w1 w'):=fun l W hb hl=>by subst hl;exact U2j hb (U0y o)
    have hpl:=V1r HI.out 8;clear hx1 hrow d0 d1 d2 d3 d4 d5 d6;cases hd:o.done with
    | false=>
      rw[hd]at d7;have cT1:=cT.out _ _ HBW.out (by unfold opL;rw[if_neg (by rw[hd];simp),List.append_nil];rfl);generalize hbx:bts (opL o)=bx at cT1;go_wp2_with (go_at_call 49;(with_reducible refine cT1.mono ?_);clear cT1;rintro e w4 ⟨rfl,hb4⟩;have HB4:=hD hb4;clear hb4)
      go_ret2
      subst hbx;exact⟨rfl,((Ext.alloc _ _).trans HB1.out).trans HB4.out⟩
    | true=>
      rw[hd]at d7;have hy:=HI.out.yes hd;have hiv:=HI.out.invoke;have hre:=HI.out.result;obtain⟨m,hm⟩:∃m:Nat,o.ret-o.invoke=m:=⟨(o.ret-o.invoke).toNat,by omega⟩;have hu1:IntKind.i64.wrap (o.ret-o.invoke)=o.ret-o.invoke:=by rw[IntKind.wrap_i64];omega
      have hu:IntKind.u64.wrap (m:Int)=m:=by rw[IntKind.wrap_u64];omega
      have HEND:Hid (opL o=opP o 8++varL m++varL (Z4i o.result)):=by unfold Hid opL;rw[if_pos hd,HE.out,hm,aG];rfl
      have cV1:=cV.out m wr (by omega);have cV2:Hid (∀W,cQ 39 #[.int .u64 (Z4i o.result)] W fun e w'=>e= .returned (.string (bts (varL (Z4i o.result))))/\Ext W w'):=fun W=>cV.out _ W (V8j (by omega) (by omega));have cF:Hid (∀W,cQ 40 #[.int .i64 o.result] W fun e w'=>e= .returned (.int .u64 (Z4i o.result))/\W=w'):=fun W=>V8i o.result W (by omega) (by omega);have HQ8:Hid ((opP o 8).length<=100):=hpl;have cS1:Hid (∀W,Ext wr W->cQ 47 #[tp w1.heap.size,.string (bts (varL m))] W fun e w'=>e= .returned (.tuple #[.int .i64 (bts (varL m)).size,.nilIface])/\BX w1 w' w1.heap.size (w1.heap.size+1) 3 ((opV o).map (fun n=>Value.int .i64 n)) (opP o 8++varL m)):=fun W hW=>by have h1:=cS.out (bts (varL m)) (opP o 8) W (HVS.out m) (HBW.out.ext hW) (by have:=HQ8.out;omega);rw[Z1r]at h1;exact h1
      have cS2:Hid (∀W,BX w1 W w1.heap.size (w1.heap.size+1) 3 ((opV o).map (fun n=>Value.int .i64 n)) (opP o 8++varL m)->cQ 47 #[tp w1.heap.size,.string (bts (varL (Z4i o.result)))] W fun e w'=>e= .returned (.tuple #[.int .i64 (bts (varL (Z4i o.result))).size,.nilIface])/\BX w1 w' w1.heap.size (w1.heap.size+1) 3 ((opV o).map (fun n=>Value.int .i64 n)) (opL o)):=fun W hW=>by have h1:=cS.out (bts (varL (Z4i o.result))) (opP o 8++varL m) W (HVS.out _) hW (by have:=HQ8.out;have:=(Z8d m).2;rw[aA];omega);rw[Z1r]at h1;rw[HEND.out];exact h1
      have cT1:Hid (∀W,BX w1 W w1.heap.size (w1.heap.size+1) 3 ((opV o).map (fun n=>Value.int .i64 n)) (opL o)->cQ 49 #[tp w1.heap.size] W fun e w'=>e= .returned (.string (bts (opL o)))/\Ext w1 w'):=fun W hW=>cT.out _ W hW rfl;have HAX:Hid (∀(W:World) (l:List UInt8),BX w1 W w1.heap.size (w1.heap.size+1) 3 ((opV o).map (fun n=>Value.int .i64 n)) l->W.cell? ⟨w.heap.size,8,none⟩=some (.int .i64 o.result)):=fun W l ⟨_,_,_,hx,_⟩=>(HBX.out W (HB1.out.trans hx)).2.2.2.2.2.2.2.2.1;generalize hbx:bts (opL o)=bx at cT1;generalize bts (varL (Z4i o.result))=by2 at *;generalize Z4i o.result=fr at *;generalize bts (varL m)=by1 at *;obtain⟨hy1,hy2⟩:=hy;have hu:IntKind.u64.wrap (o.ret-o.invoke)=m:=by rw[hm];exact hu
      clear cT cS cV HEND;go_wp2_with (first
       | (go_at_call 39;(with_reducible refine cV1.mono ?_);clear cV1;rintro e w2 ⟨rfl,hb2⟩)
       | (go_at_call 47;(with_reducible refine(cS1.out _ hb2).mono ?_);clear cS1;rintro e w3 ⟨rfl,hb3⟩;have e8:=HAX.out _ _ hb3)
       | (go_at_call 40;(with_reducible refine(cF.out _).mono ?_);clear cF;rintro e w4 ⟨rfl,rfl⟩)
       | (go_at_call 39;(with_reducible refine(cV2.out _).mono ?_);clear cV2;rintro e w5 ⟨rfl,hb5⟩;have hb6:=hb3.ext hb5)
       | (go_at_call 47;(with_reducible refine(cS2.out _ hb6).mono ?_);clear cS2;rintro e w7 ⟨rfl,hb7⟩)
       | (go_at_call 49;(with_reducible refine(cT1.out _ hb7).mono ?_);clear cT1;rintro e w8 ⟨rfl,hb8⟩;have HB4:=hD hb8))
      go_ret2
      subst hbx;exact⟨rfl,((Ext.alloc _ _).trans HB1.out).trans HB4.out⟩
 ·rw[if_neg h0];have q1:decide (c=0)=false:=decide_eq_false h0;go_enter Tryz.func131,Tryz.ntmps131;go_wp2_with (go_at_call 147;(with_reducible refine(cC.out _).mono ?_);clear cC;rintro e w1 ⟨rfl,hb1⟩;have HB1:=hD hb1;clear hb1)
  go_ret2
  exact⟨rfl,(Ext.alloc _ _).trans HB1.out⟩
end Go.Proofs.YtohaldfnmgcofaaGreat
