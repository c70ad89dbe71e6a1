/- op's reader: a number. Conditions: a text that begins with a number. -/
import Derived.Test.YtohaldfnmgcofaaGreatT16
set_option maxRecDepth 100000
set_option maxHeartbeats 4000000
set_option linter.unusedSimpArgs false
set_option linter.unusedVariables false
namespace Go.Proofs.YtohaldfnmgcofaaGreat
open Go.RowKit
abbrev U1z(w:World)(r:Nat)(s:ByteArray)(ok:Bool):Prop:=Row1 w r 242 [.string s,.bool ok]
theorem V9f(a b:List UInt8):(bts (a++b)).extract a.length (bts (a++b)).size=bts b:=by rw[ByteArray.ext_iff,ByteArray.data_extract,Z0e];apply Array.ext';simp[bts]
theorem Y6i{r:Nat}(n:Nat)(t:List UInt8)(w:World)(h:U1z w r (bts (varL n++t)) true)(hn:n<=1099511627776)(ht:t.length<=1000000):
  cQ 146 #[tp r] w fun e w'=>e= .returned (.int .i64 n)/\U1z w' r (bts t) true/\Only (fun i=>i=r) w w':=by
 have hv:=Z8d n;have hsz:(bts (varL n++t)).size=(varL n).length+t.length:=by rw[Z0e,aA]
 have cU:=X9o (bts (varL n++t)) (by omega) w;rw[Z1r,X6l (by omega) t]at cU;have hex:=V9f (varL n) t;generalize bts (varL n++t)=s at *;generalize (varL n).length=k at *;have c0:w.cell? ⟨r,0,none⟩=some (.string s):=h.cell 0;have c1:w.cell? ⟨r,1,none⟩=some (.bool true):=h.cell 1;have f0:w.frozen? ⟨r,0,none⟩=false:=h.soft 0;have f1:w.frozen? ⟨r,1,none⟩=false:=h.soft 1;have HR:=hD h;clear h;have q1:decide ((0:Int)<(k:Int))=true:=aN;have q2:decide ((n:Int)<=1099511627776)=true:=aN;have hks:k<=s.size:=by omega
 have hu:IntKind.i64.wrap (n:Int)=n:=by rw[IntKind.wrap_i64];omega
 have HO:Hid (∀(o9:Bool) (s9:ByteArray),Only (fun i=>i=r) w ((w.setCell ⟨r,1,none⟩ (.bool o9)).setCell ⟨r,0,none⟩ (.string s9))):=fun o9 s9=>(Only.setCell (F:=fun i=>i=r) (p:=⟨r,1,none⟩) Only.refl (.inl rfl) _).setCell (p:=⟨r,0,none⟩) (.inl rfl) _;have HEX:=hD hex;clear hex hsz;go_enter Tryz.func146,Tryz.ntmps146;go_wp2_with (go_at_call 100;(with_reducible refine cU.mono ?_);clear cU;rintro e w1 ⟨rfl,rfl⟩);go_ret;refine⟨rfl,?_,HO.out _ _⟩;have h9:=(HR.out.set 1 (.bool true)).set 0 (.string (s.extract k s.size));rw[<-HEX.out];exact h9
theorem X4h{fn:Func}{x y:Nat}(h:fn.results= #[.cell x 73,.tmp y])(tmps:Array Value)(w:World)(B:Nat)(o:OpD)(v:Value)(hB:tmps.getD x undef= tp B)(hv:tmps.getD y undef=v)(hr:Row1 w B 73 o.cells):
  (results fn tmps).run Tryz.prog w= .ok (.tuple #[o.val,v]) w:=by
 rw[results_cell_tmp h,hB,hv];have c0:w.cell? ⟨B,0,none⟩=_:=hr.cell 0;have c1:w.cell? ⟨B,1,none⟩=_:=hr.cell 1;have c2:w.cell? ⟨B,2,none⟩=_:=hr.cell 2;have c3:w.cell? ⟨B,3,none⟩=_:=hr.cell 3;have c4:w.cell? ⟨B,4,none⟩=_:=hr.cell 4;have c5:w.cell? ⟨B,5,none⟩=_:=hr.cell 5;have c6:w.cell? ⟨B,6,none⟩=_:=hr.cell 6;have c7:w.cell? ⟨B,7,none⟩=_:=hr.cell 7;have c8:w.cell? ⟨B,8,none⟩=_:=hr.cell 8;have c9:w.cell? ⟨B,9,none⟩=_:=hr.cell 9;have c10:w.cell? ⟨B,10,none⟩=_:=hr.cell 10;unfold OpD.cells at c0 c1 c2 c3 c4 c5 c6 c7 c8 c9 c10
 go_simp
structure DW (w wx:World) (s:ByteArray):Prop where
 ext:Ext w wx
 res:Row1 wx w.heap.size 73 opZero.cells
 rd:U1z wx (w.heap.size+1) s true
theorem DW.next{w W:World}{n:Nat}{t:List UInt8}(h:DW w W (bts (varL n++t)))(hn:n<=1099511627776)(ht:t.length<=1000000):
  cQ 146 #[.pointer (some ⟨w.heap.size+1,0,none⟩)] W fun e w'=>e= .returned (.int .i64 n)/\DW w w' (bts t):=by
 refine(Y6i n t W h.rd hn ht).mono ?_;rintro e w' ⟨rfl,h1,h2⟩;exact⟨rfl,⟨((Only.of h.ext).trans h2 (F:=fun i=>w.heap.size<=i) (fun i q=> .inl (by omega))).toExt (fun i q=>q),h2.row h.res (by omega),h1⟩⟩
structure DO (w wx:World) (s:ByteArray) (G:Nat) (cs:List Value):Prop where
 dw:DW w wx s
 row:Row1 wx G 73 cs
 far:w.heap.size+1<G
theorem DO.next{w W:World}{n:Nat}{t:List UInt8}{G:Nat}{cs:List Value}(h:DO w W (bts (varL n++t)) G cs)(hn:n<=1099511627776)(ht:t.length<=1000000):
  cQ 146 #[.pointer (some ⟨w.heap.size+1,0,none⟩)] W fun e w'=>e= .returned (.int .i64 n)/\DO w w' (bts t) G cs:=by
 have hf:=h.far;refine(Y6i n t W h.dw.rd hn ht).mono ?_;rintro e w' ⟨rfl,h1,h2⟩;exact⟨rfl,⟨((Only.of h.dw.ext).trans h2 (F:=fun i=>w.heap.size<=i) (fun i q=> .inl (by omega))).toExt (fun i q=>q),h2.row h.dw.res (by omega),h1⟩,h2.row h.row (by omega),hf⟩
theorem DO.ext{w W W':World}{s:ByteArray}{G:Nat}{cs:List Value}(h:DO w W s G cs)(hx:Ext W W'):DO w W' s G cs:=
 ⟨⟨h.dw.ext.trans hx,h.dw.res.ext hx h.dw.res.lt,h.dw.rd.ext hx h.dw.rd.lt⟩,h.row.ext hx h.row.lt,h.far⟩
theorem DO.set{w W:World}{s:ByteArray}{G:Nat}{cs:List Value}(h:DO w W s G cs)(i:Nat)(v:Value):DO w (W.setCell ⟨G,i,none⟩ v) s G (cs.set i v):=by have hf:=h.far;exact⟨⟨((Only.of h.dw.ext (F:=fun i=>w.heap.size<=i)).setCell (p:=⟨G,i,none⟩) (.inl (by show _<=G;omega)) v).toExt (fun i q=>q),h.dw.res.setFar (p:=⟨G,i,none⟩) (by show _≠G;omega) _,h.dw.rd.setFar (p:=⟨G,i,none⟩) (by show _≠G;omega) _⟩,h.row.set i v,hf⟩
theorem DO.read{w W:World}{s:ByteArray}{G:Nat}{cs:List Value}(h:DO w W s G cs):W.cell? ⟨w.heap.size+1,0,none⟩=some (.string s)/\W.cell? ⟨w.heap.size+1,1,none⟩=some (.bool true):=⟨h.dw.rd.cell 0,h.dw.rd.cell 1⟩
theorem Z1t{w:World}{B:Nat}{t:TypeId}{v0 v1 v2 v3 v4 v5 v6 v7 v8 v9 v10:Value}(h:Row1 w B t [v0,v1,v2,v3,v4,v5,v6,v7,v8,v9,v10]):w.cell? ⟨B,0,none⟩=some v0/\w.cell? ⟨B,1,none⟩=some v1/\w.cell? ⟨B,2,none⟩=some v2/\w.cell? ⟨B,3,none⟩=some v3/\w.cell? ⟨B,4,none⟩=some v4/\w.cell? ⟨B,5,none⟩=some v5/\w.cell? ⟨B,6,none⟩=some v6/\w.cell? ⟨B,7,none⟩=some v7/\w.cell? ⟨B,8,none⟩=some v8/\w.cell? ⟨B,9,none⟩=some v9/\w.cell? ⟨B,10,none⟩=some v10:=
 ⟨h.cell 0,h.cell 1,h.cell 2,h.cell 3,h.cell 4,h.cell 5,h.cell 6,h.cell 7,h.cell 8,h.cell 9,h.cell 10⟩
theorem Z4r{w:World}{B:Nat}{t:TypeId}{cs:List Value}(h:Row1 w B t cs):w.frozen? ⟨B,0,none⟩=false/\w.frozen? ⟨B,1,none⟩=false/\w.frozen? ⟨B,2,none⟩=false/\w.frozen? ⟨B,3,none⟩=false/\w.frozen? ⟨B,4,none⟩=false/\w.frozen? ⟨B,5,none⟩=false/\w.frozen? ⟨B,6,none⟩=false/\w.frozen? ⟨B,7,none⟩=false/\w.frozen? ⟨B,8,none⟩=false/\w.frozen? ⟨B,9,none⟩=false/\w.frozen? ⟨B,10,none⟩=false:=
 ⟨h.soft 0,h.soft 1,h.soft 2,h.soft 3,h.soft 4,h.soft 5,h.soft 6,h.soft 7,h.soft 8,h.soft 9,h.soft 10⟩
theorem Z7d{w:World}{B:Nat}{t:TypeId}{c0 c1 c2 c3 c4 c5 c6 c7 c8 c9 c10:Value}(h:Row1 w B t [c0,c1,c2,c3,c4,c5,c6,c7,c8,c9,c10])(v0 v1 v2 v3 v4 v5 v6 v7 v8 v9 v10:Value):Row1 (((((((((((w.setCell ⟨B,0,none⟩ v0).setCell ⟨B,1,none⟩ v1).setCell ⟨B,2,none⟩ v2).setCell ⟨B,3,none⟩ v3).setCell ⟨B,4,none⟩ v4).setCell ⟨B,5,none⟩ v5).setCell ⟨B,6,none⟩ v6).setCell ⟨B,7,none⟩ v7).setCell ⟨B,8,none⟩ v8).setCell ⟨B,9,none⟩ v9).setCell ⟨B,10,none⟩ v10) B t [v0,v1,v2,v3,v4,v5,v6,v7,v8,v9,v10]:=(((((((((((h.set 0 v0).set 1 v1).set 2 v2).set 3 v3).set 4 v4).set 5 v5).set 6 v6).set 7 v7).set 8 v8).set 9 v9).set 10 v10)
theorem Y4u{w0 w:World}{B:Nat}(h:Ext w0 w)(hB:w0.heap.size<=B)(v0 v1 v2 v3 v4 v5 v6 v7 v8 v9 v10:Value):Ext w0 (((((((((((w.setCell ⟨B,0,none⟩ v0).setCell ⟨B,1,none⟩ v1).setCell ⟨B,2,none⟩ v2).setCell ⟨B,3,none⟩ v3).setCell ⟨B,4,none⟩ v4).setCell ⟨B,5,none⟩ v5).setCell ⟨B,6,none⟩ v6).setCell ⟨B,7,none⟩ v7).setCell ⟨B,8,none⟩ v8).setCell ⟨B,9,none⟩ v9).setCell ⟨B,10,none⟩ v10):=Only.toExt ((((((((((((Only.of h).setCell (F:=fun i=>w0.heap.size<=i) (p:=⟨B,0,none⟩) (.inl hB) v0).setCell (F:=fun i=>w0.heap.size<=i) (p:=⟨B,1,none⟩) (.inl hB) v1).setCell (F:=fun i=>w0.heap.size<=i) (p:=⟨B,2,none⟩) (.inl hB) v2).setCell (F:=fun i=>w0.heap.size<=i) (p:=⟨B,3,none⟩) (.inl hB) v3).setCell (F:=fun i=>w0.heap.size<=i) (p:=⟨B,4,none⟩) (.inl hB) v4).setCell (F:=fun i=>w0.heap.size<=i) (p:=⟨B,5,none⟩) (.inl hB) v5).setCell (F:=fun i=>w0.heap.size<=i) (p:=⟨B,6,none⟩) (.inl hB) v6).setCell (F:=fun i=>w0.heap.size<=i) (p:=⟨B,7,none⟩) (.inl hB) v7).setCell (F:=fun i=>w0.heap.size<=i) (p:=⟨B,8,none⟩) (.inl hB) v8).setCell (F:=fun i=>w0.heap.size<=i) (p:=⟨B,9,none⟩) (.inl hB) v9).setCell (F:=fun i=>w0.heap.size<=i) (p:=⟨B,10,none⟩) (.inl hB) v10) (fun i q=>q)
theorem Z7k(o:OpD)(w:World)(ho:Z1p o=0):
  cQ 88 #[.string (bts (opL o))] w fun e w'=>e= .returned (.tuple #[o.val,.int .i64 0])/\Ext w w':=by
 have hin:=OpIn.of ho;have cC:Hid (∀W,cQ 147 #[.agg #[.int .i64 o.id,.int .i64 o.proc,.int .i64 o.object,.int .i64 o.kind,.int .i64 o.method,.int .i64 o.arg,.int .i64 o.second,.bool o.done,.int .i64 o.result,.int .i64 o.invoke,.int .i64 o.ret]] W fun e w'=>e= .returned (.int .i64 0)/\Ext W w'):=fun W=>by have h1:=Y4g o W (by have:=hin.result;omega);rwa [ho]at h1
 have hlen:=V1s hin;have HIN:=hD hin;obtain⟨T8,hT8⟩:∃T8,(if o.done=true then varL (o.ret-o.invoke).toNat++varL (Z4i o.result)else [])=T8:=⟨_,rfl⟩;have hT:opL o=(opV o).flatMap (fun n=>varL n.toNat)++T8:=by rw[<-hT8];rfl
 have hT:opL o=varL o.id.toNat++(varL o.proc.toNat++(varL o.object.toNat++(varL o.kind.toNat++(varL o.method.toNat++(varL o.arg.toNat++(varL o.second.toNat++(varL o.invoke.toNat++(T8)))))))):=by rw[hT];simp[opV,aG]
 obtain⟨T7,hT7⟩:∃T7,varL o.invoke.toNat++T8=T7:=⟨_,rfl⟩;obtain⟨T6,hT6⟩:∃T6,varL o.second.toNat++T7=T6:=⟨_,rfl⟩;obtain⟨T5,hT5⟩:∃T5,varL o.arg.toNat++T6=T5:=⟨_,rfl⟩;obtain⟨T4,hT4⟩:∃T4,varL o.method.toNat++T5=T4:=⟨_,rfl⟩;obtain⟨T3,hT3⟩:∃T3,varL o.kind.toNat++T4=T3:=⟨_,rfl⟩;obtain⟨T2,hT2⟩:∃T2,varL o.object.toNat++T3=T2:=⟨_,rfl⟩;obtain⟨T1,hT1⟩:∃T1,varL o.proc.toNat++T2=T1:=⟨_,rfl⟩;rw[hT7,hT6,hT5,hT4,hT3,hT2,hT1]at hT;obtain⟨T0,hT0⟩:∃T0,opL o=T0:=⟨_,rfl⟩;rw[hT0]at hT hlen ⊢;have l0:T0.length<=1000:=by omega
 have l1:T1.length<=1000:=by rw[hT,aA]at l0;omega
 have l2:T2.length<=1000:=by rw[<-hT1,aA]at l1;omega
 have l3:T3.length<=1000:=by rw[<-hT2,aA]at l2;omega
 have l4:T4.length<=1000:=by rw[<-hT3,aA]at l3;omega
 have l5:T5.length<=1000:=by rw[<-hT4,aA]at l4;omega
 have l6:T6.length<=1000:=by rw[<-hT5,aA]at l5;omega
 have l7:T7.length<=1000:=by rw[<-hT6,aA]at l6;omega
 have l8:T8.length<=1000:=by rw[<-hT7,aA]at l7;omega
 have cN:Hid (∀(n:Int) t W,DW w W (bts (varL n.toNat++t))->0<=n/\n<=1099511627776->t.length<=1000->cQ 146 #[.pointer (some ⟨w.heap.size+1,0,none⟩)] W fun e w'=>e= .returned (.int .i64 n)/\DW w w' (bts t)):=fun n t W h hn ht=>by have h1:=h.next (by omega) (by omega);rwa [Int.toNat_of_nonneg hn.1]at h1
 have c0:Hid (∀W,DW w W (bts T0)->cQ 146 #[.pointer (some ⟨w.heap.size+1,0,none⟩)] W fun e w'=>e= .returned (.int .i64 o.id)/\DW w w' (bts T1)):=fun W hW=>cN.out o.id T1 W (by rw[<-hT];exact hW) (hin.nums _ (by simp[opV])) l1;have c1:Hid (∀W,DW w W (bts T1)->cQ 146 #[.pointer (some ⟨w.heap.size+1,0,none⟩)] W fun e w'=>e= .returned (.int .i64 o.proc)/\DW w w' (bts T2)):=fun W hW=>cN.out o.proc T2 W (by rw[hT1];exact hW) (hin.nums _ (by simp[opV])) l2;have c2:Hid (∀W,DW w W (bts T2)->cQ 146 #[.pointer (some ⟨w.heap.size+1,0,none⟩)] W fun e w'=>e= .returned (.int .i64 o.object)/\DW w w' (bts T3)):=fun W hW=>cN.out o.object T3 W (by rw[hT2];exact hW) (hin.nums _ (by simp[opV])) l3;have c3:Hid (∀W,DW w W (bts T3)->cQ 146 #[.pointer (some ⟨w.heap.size+1,0,none⟩)] W fun e w'=>e= .returned (.int .i64 o.kind)/\DW w w' (bts T4)):=fun W hW=>cN.out o.kind T4 W (by rw[hT3];exact hW) (hin.nums _ (by simp[opV])) l4;have c4:Hid (∀W,DW w W (bts T4)->cQ 146 #[.pointer (some ⟨w.heap.size+1,0,none⟩)] W fun e w'=>e= .returned (.int .i64 o.method)/\DW w w' (bts T5)):=fun W hW=>cN.out o.method T5 W (by rw[hT4];exact hW) (hin.nums _ (by simp[opV])) l5;have c5:Hid (∀W,DW w W (bts T5)->cQ 146 #[.pointer (some ⟨w.heap.size+1,0,none⟩)] W fun e w'=>e= .returned (.int .i64 o.arg)/\DW w w' (bts T6)):=fun W hW=>cN.out o.arg T6 W (by rw[hT5];exact hW) (hin.nums _ (by simp[opV])) l6;have c6:Hid (∀W,DW w W (bts T6)->cQ 146 #[.pointer (some ⟨w.heap.size+1,0,none⟩)] W fun e w'=>e= .returned (.int .i64 o.second)/\DW w w' (bts T7)):=fun W hW=>cN.out o.second T7 W (by rw[hT6];exact hW) (hin.nums _ (by simp[opV])) l7;have c7:Hid (∀W,DW w W (bts T7)->cQ 146 #[.pointer (some ⟨w.heap.size+1,0,none⟩)] W fun e w'=>e= .returned (.int .i64 o.invoke)/\DW w w' (bts T8)):=fun W hW=>cN.out o.invoke T8 W (by rw[hT7];exact hW) (hin.nums _ (by simp[opV])) l8;have HW0:Hid (DW w ((w.alloc (.cells #[.int .i64 0,.int .i64 0,.int .i64 0,.int .i64 0,.int .i64 0,.int .i64 0,.int .i64 0,.bool false,.int .i64 0,.int .i64 0,.int .i64 0] 73)).alloc (.cells #[.string (bts T0),.bool true] 242)) (bts T0)):=⟨(Ext.alloc _ _).trans (Ext.alloc _ _),(Row1.made w _ opZero.cells).alloc _,Row1.made' (by simp) _ [.string (bts T0),.bool true]⟩;have HT8:=hD hT8;clear hT hT0 hT8 hlen l0 l1 l2 l3 l4 l5 l6 l7 hT1 hT2 hT3 hT4 hT5 hT6 hT7;go_enter Tryz.func88,Tryz.ntmps88;go_upto_region 3 with (first
  | (go_at_call 146;(with_reducible refine(c0.out _ HW0.out).mono ?_);clear c0;rintro e w1 ⟨rfl,hd1⟩)
  | (go_at_call 146;(with_reducible refine(c1.out _ hd1).mono ?_);clear c1;rintro e w2 ⟨rfl,hd2⟩)
  | (go_at_call 146;(with_reducible refine(c2.out _ hd2).mono ?_);clear c2;rintro e w3 ⟨rfl,hd3⟩)
  | (go_at_call 146;(with_reducible refine(c3.out _ hd3).mono ?_);clear c3;rintro e w4 ⟨rfl,hd4⟩)
  | (go_at_call 146;(with_reducible refine(c4.out _ hd4).mono ?_);clear c4;rintro e w5 ⟨rfl,hd5⟩)
  | (go_at_call 146;(with_reducible refine(c5.out _ hd5).mono ?_);clear c5;rintro e w6 ⟨rfl,hd6⟩)
  | (go_at_call 146;(with_reducible refine(c6.out _ hd6).mono ?_);clear c6;rintro e w7 ⟨rfl,hd7⟩)
  | (go_at_call 146;(with_reducible refine(c7.out _ hd7).mono ?_);clear c7;rintro e w8 ⟨rfl,hd8⟩))
 have HD9:Hid (DO w (w8.alloc (.cells #[.int .i64 o.id,.int .i64 o.proc,.int .i64 o.object,.int .i64 o.kind,.int .i64 o.method,.int .i64 o.arg,.int .i64 o.second,.bool false,.int .i64 0,.int .i64 o.invoke,.int .i64 0] 73)) (bts T8) w8.heap.size [.int .i64 o.id,.int .i64 o.proc,.int .i64 o.object,.int .i64 o.kind,.int .i64 o.method,.int .i64 o.arg,.int .i64 o.second,.bool false,.int .i64 0,.int .i64 o.invoke,.int .i64 0]):=
  ⟨⟨hd8.ext.trans (Ext.alloc _ _),hd8.res.alloc _,hd8.rd.alloc _⟩,Row1.made w8 _ _,hd8.rd.lt⟩
 generalize hW9:w8.alloc _=W9 at *;clear hW9 hd1 hd2 hd3 hd4 hd5 hd6 hd7 hd8;generalize w8.heap.size=G at *;obtain⟨r0,r1⟩:=HD9.out.read;cases hd:o.done with
 | false=>
   obtain⟨hr1,hr2⟩:=HIN.out.no hd;have h8:T8= []:=by rw[<-HT8.out,hd];rfl
   subst h8;rw[hd,hr1,hr2]at cC;have hE:(bts ([]:List UInt8)).toList.isEmpty=true:=by rw[ByteArray.toList_eq];rfl
   have hE2:(bts ([]:List UInt8)).toList= []:=by rw[ByteArray.toList_eq];rfl
   obtain⟨g0,g1,g2,g3,g4,g5,g6,g7,g8,g9,g10⟩:=Z1t HD9.out.row;have HO:Hid (o.cells= [.int .i64 o.id,.int .i64 o.proc,.int .i64 o.object,.int .i64 o.kind,.int .i64 o.method,.int .i64 o.arg,.int .i64 o.second,.bool false,.int .i64 0,.int .i64 o.invoke,.int .i64 0]):=by unfold Hid OpD.cells;rw[hd,hr1,hr2]
   go_upto_region 9 with (go_at_call 147;(with_reducible refine(cC.out _).mono ?_);clear cC;rintro e w10 ⟨rfl,hb10⟩;have HB10:=hD hb10;clear hb10);have HD10:=hD (HD9.out.ext HB10.out);clear g0 g1 g2 g3 g4 g5 g6 g7 g8 g9 g10 r0 r1;obtain⟨g0,g1,g2,g3,g4,g5,g6,g7,g8,g9,g10⟩:=Z1t HD10.out.row;obtain⟨a0,a1,a2,a3,a4,a5,a6,a7,a8,a9,a10⟩:=Z1t HD10.out.dw.res;obtain⟨f0,f1,f2,f3,f4,f5,f6,f7,f8,f9,f10⟩:=Z4r HD10.out.dw.res;go_wp2_with fail;refine bodyPost_ret (X4h rfl _ _ w.heap.size o _ rfl rfl ?_) rfl ⟨rfl,?_⟩
   ·rw[HO.out];exact Z7d HD10.out.dw.res _ _ _ _ _ _ _ _ _ _ _
   ·exact Y4u HD10.out.dw.ext (aF _) _ _ _ _ _ _ _ _ _ _ _
 | true=>
   obtain⟨hy1,hy2⟩:=HIN.out.yes hd;have hre:=HIN.out.result;have hiv:=HIN.out.invoke;obtain⟨m,hm⟩:∃m:Nat,o.ret-o.invoke=m:=⟨(o.ret-o.invoke).toNat,by omega⟩;have hfu:Y0v (Z4i o.result)=o.result:=X1q _;have hfl:Z4i o.result<=1099511627776:=by unfold Z4i;split<;>omega
   obtain⟨fr,hfr⟩:∃fr,Z4i o.result=fr:=⟨_,rfl⟩;have h8:T8=varL m++(varL fr++ []):=by rw[<-HT8.out,hd,if_pos rfl,hm,hfr,List.append_nil];rfl
   have hfz:(varL fr++ []).length<=1000:=by rw[List.append_nil];have:=(Z8d fr).2;omega
   rw[hfr]at hfu hfl;have hE:(bts T8).toList.isEmpty=false:=by
    rw[ByteArray.toList_eq,h8];have:=(Z8d m).1;cases hq:varL m with
    | nil=>rw[hq]at this;simp at this
    | cons a b=>rfl
   have hne:¬(bts T8).toList= []:=by intro q;rw[q]at hE;simp at hE
   have cM:Hid (∀W cs,DO w W (bts T8) G cs->cQ 146 #[.pointer (some ⟨w.heap.size+1,0,none⟩)] W fun e w'=>e= .returned (.int .i64 (m:Nat))/\DO w w' (bts (varL fr++ [])) G cs):=fun W cs hW=>(h8▸hW:DO w W (bts (varL m++(varL fr++ []))) G cs).next (by omega) (by omega);have cR:Hid (∀W cs,DO w W (bts (varL fr++ [])) G cs->cQ 146 #[.pointer (some ⟨w.heap.size+1,0,none⟩)] W fun e w'=>e= .returned (.int .i64 (fr:Nat))/\DO w w' (bts []) G cs):=fun W cs hW=>hW.next hfl (by simp);have cU:Hid (∀W,cQ 101 #[.int .u64 (fr:Nat)] W fun e w'=>e= .returned (.int .i64 o.result)/\W=w'):=fun W=>by have h1:=X6n fr W (by omega);rwa [hfu]at h1
   have f7:=HD9.out.row.soft 7;have g7:W9.cell? ⟨G,7,none⟩=some (.bool false):=HD9.out.row.cell 7;have HO:Hid (o.cells= [.int .i64 o.id,.int .i64 o.proc,.int .i64 o.object,.int .i64 o.kind,.int .i64 o.method,.int .i64 o.arg,.int .i64 o.second,.bool true,.int .i64 o.result,.int .i64 o.invoke,.int .i64 o.ret]):=by unfold Hid OpD.cells;rw[hd]
   rw[hd]at cC;clear h8 hfr hd hre;go_upto_region 5 with fail;have HDA:=hD (HD9.out.set 7 (.bool true));generalize hWA:World.setCell _ _ _=WA at *;clear hWA r0 r1 f7 g7;have hs1:o.invoke+(m:Int)=o.ret:=by omega
   have hs2:IntKind.i64.wrap o.ret=o.ret:=by rw[IntKind.wrap_i64];omega
   refine wp_region_held_drew (S:=fun W=>W.cell? ⟨G,9,none⟩=some (.int .i64 o.invoke)) (by kernel_rfl) ((HDA.out.ext (by exact Xt)).row.cell 9) (fun hHeld=> ?_);refine' tk 0 ?_;refine' tk 1 ?_;refine' tk 2 ?_;refine stp 3 (fun K hK=> ?_);go_simp
   (with_reducible refine(cM.out _ _ (HDA.out.ext ?_)).mono ?_)
   ·exact Xt
   rintro e w10 ⟨rfl,hdb⟩;have HDB:=hD hdb;clear hdb
   (try dsimp only)
   (try go_simp)
   refine hK.out _ _ ((HDB.out.ext (by exact Xt)).row.cell 9) (fun hHeld=> ?_);clear hK K;refine pt ?_;refine' tk 4 ?_;refine' tk 5 ?_;have g10:w10.cell? ⟨G,10,none⟩=some (.int .i64 0):=HDB.out.row.cell 10;have f10:w10.frozen? ⟨G,10,none⟩=false:=HDB.out.row.soft 10;have g10':w10.drew.cell? ⟨G,10,none⟩=some (.int .i64 0):=HDB.out.row.cell 10;have f10':w10.drew.frozen? ⟨G,10,none⟩=false:=HDB.out.row.soft 10;refine stp 6 (fun K hK=> ?_);go_simp;refine hK.out _ _ ((HDB.out.set 10 _).row.cell 9) (fun hHeld=> ?_);clear hK K;refine pt ?_;refine wpAnyH_done (by kernel_rfl) ?_ _;have HDC:=hD (HDB.out.set 10 (.int .i64 o.ret));generalize hWC:World.setCell _ _ _=w11 at *;clear hWC g10 f10 g10' f10' hHeld;have hfw:IntKind.u64.wrap (fr:Int)=fr:=by rw[IntKind.wrap_u64];omega
   go_upto_region 7 with (first
    | (go_at_call 146;(with_reducible refine(cR.out _ _ HDC.out).mono ?_);clear cR;rintro e w12 ⟨rfl,hdd⟩;have HDD:=hD hdd;have g8:w12.cell? ⟨G,8,none⟩=some (.int .i64 0):=hdd.row.cell 8;have f8:w12.frozen? ⟨G,8,none⟩=false:=hdd.row.soft 8;clear hdd)
    | (go_at_call 101;(with_reducible refine(cU.out _).mono ?_);clear cU;rintro e w13 ⟨rfl,rfl⟩))
   have HDE:=hD (HDD.out.set 8 (.int .i64 o.result));generalize hWE:World.setCell _ _ _=w14 at *;clear hWE g8 f8;have hE1:(bts ([]:List UInt8)).toList.isEmpty=true:=by rw[ByteArray.toList_eq];rfl
   have hE2:(bts ([]:List UInt8)).toList= []:=by rw[ByteArray.toList_eq];rfl
   obtain⟨r0,r1⟩:=HDE.out.read;obtain⟨g0,g1,g2,g3,g4,g5,g6,g7,g8,g9,g10⟩:=Z1t (show Row1 w14 G 73 [.int .i64 o.id,.int .i64 o.proc,.int .i64 o.object,.int .i64 o.kind,.int .i64 o.method,.int .i64 o.arg,.int .i64 o.second,.bool true,.int .i64 o.result,.int .i64 o.invoke,.int .i64 o.ret]from HDE.out.row);go_upto_region 9 with (go_at_call 147;(with_reducible refine(cC.out _).mono ?_);clear cC;rintro e w10 ⟨rfl,hb10⟩;have HB10:=hD hb10;clear hb10);have HD10:=hD (HDE.out.ext HB10.out);clear g0 g1 g2 g3 g4 g5 g6 g7 g8 g9 g10 r0 r1;obtain⟨g0,g1,g2,g3,g4,g5,g6,g7,g8,g9,g10⟩:=Z1t (show Row1 _ G 73 [.int .i64 o.id,.int .i64 o.proc,.int .i64 o.object,.int .i64 o.kind,.int .i64 o.method,.int .i64 o.arg,.int .i64 o.second,.bool true,.int .i64 o.result,.int .i64 o.invoke,.int .i64 o.ret]from HD10.out.row);obtain⟨a0,a1,a2,a3,a4,a5,a6,a7,a8,a9,a10⟩:=Z1t HD10.out.dw.res;obtain⟨f0,f1,f2,f3,f4,f5,f6,f7,f8,f9,f10⟩:=Z4r HD10.out.dw.res;go_wp2_with fail;refine bodyPost_ret (X4h rfl _ _ w.heap.size o _ rfl rfl ?_) rfl ⟨rfl,?_⟩
   ·rw[HO.out];exact Z7d HD10.out.dw.res _ _ _ _ _ _ _ _ _ _ _
   ·exact Y4u HD10.out.dw.ext (aF _) _ _ _ _ _ _ _ _ _ _ _
end Go.Proofs.YtohaldfnmgcofaaGreat
