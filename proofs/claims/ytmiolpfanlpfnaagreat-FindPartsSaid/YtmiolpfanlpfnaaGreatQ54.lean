/- What lies before, after or beside an operation (layer 20's near): plain law, and the statement's closure. Conditions: a table's trees. -/
import Derived.Test.YtmiolpfanlpfnaaGreatQ48
set_option maxRecDepth 100000
set_option maxHeartbeats 4000000
namespace Go.Proofs.YtmiolpfanlpfnaaGreat
set_option linter.unusedSimpArgs false
set_option linter.unusedVariables false
open Go.RowKit
theorem V7j(l:List OpD):cutL (-1) l=l:=by unfold cutL;rw[if_neg (by omega)]
def Y9x(how:ByteArray)(id:Int):ND:= .mk 5 [] how ⟨#[]⟩ id
theorem V0n(w:World)(how:ByteArray)(id:Int):NdB (fun _=>False) w 1 (Y9x how id) ⟨5,.slice none 0 0,how,⟨#[]⟩,id⟩:=⟨rfl,rfl,rfl,rfl,[],Sl.nil _ _ _,fun b h=>absurd h (by simp),rfl,fun i x y h=>by simp[Y9x,ND.kids]at h⟩
def hOver:ByteArray:=⟨#[111,118,101,114,108,97,112,115]⟩
def hBef:ByteArray:=⟨#[98,101,102,111,114,101]⟩
def hAft:ByteArray:=⟨#[97,102,116,101,114]⟩
def Y1j(ls:List OpD)(how:ByteArray)(id:Int):Nat:=(runL ⟨#[]⟩ false ls (Y9x how id) ls).length
theorem V0l(ls:List OpD)(how:ByteArray)(id:Int)(o:OpD):Z0r ls o (Y9x how id)=Y0f ls o how.toList id:=Z9q ls o (Y9x how id) rfl
theorem Y1y(ls:List OpD)(how:ByteArray)(id:Int):Y1j ls how id=(ls.filter (fun o=>Y0f ls o how.toList id)).length:=by
 unfold Y1j
 rw[(Y8x ⟨#[]⟩ false ls (Y9x how id) ls).1.length_eq]
 exact congrArg List.length (List.filter_congr (fun o _=>V0l ls how id o))
theorem X7o{o p:OpD}(ho:Z2i o=0)(hp:Z2i p=0)(h1:Z0u o p=true)(h2:Z0u p o=true):False:=by
 unfold Z0u at h1 h2
 simp only[Bool.and_eq_true,decide_eq_true_eq]at h1 h2
 have q1:=((OpIn.of ho).yes h1.1).1
 have q2:=((OpIn.of hp).yes h2.1).1
 omega
theorem Y8r(p:OpD)(hp:Z2i p=0):∀l:List OpD,(∀o∈l,Z2i o=0)→(l.filter (fun o=> !Z0u o p&& !Z0u p o)).length+(l.filter (fun o=>Z0u o p)).length+(l.filter (fun o=>Z0u p o)).length=l.length
 | [],_=>rfl
 | a::r,h=>by
   have ih:=Y8r p hp r (fun o ho=>h o (List.mem_cons_of_mem _ ho))
   have hn:Z0u a p=true→Z0u p a=true→False:=X7o (h a List.mem_cons_self) hp
   simp only[List.filter_cons]
   cases h1:Z0u a p<;>cases h2:Z0u p a<;>simp<;>first | omega | (exact (hn h1 h2).elim)
theorem V0m{ls:List OpD}{id:Int}{p:OpD}(hg:getL ls id=some p)(h:∀o∈ls,Z2i o=0):Y1j ls hOver id+Y1j ls hBef id+Y1j ls hAft id=ls.length:=by
 have hp:Z2i p=0:=h p (List.mem_of_find?_eq_some hg)
 rw[Y1y,Y1y,Y1y,←Y8r p hp ls h]
 have e1:hOver.toList= [111,118,101,114,108,97,112,115]:=by decide +kernel
 have e2:hBef.toList= [98,101,102,111,114,101]:=by decide +kernel
 have e3:hAft.toList= [97,102,116,101,114]:=by decide +kernel
 have f1:∀o,Y0f ls o hOver.toList id=(!Z0u o p&& !Z0u p o):=fun o=>by unfold Y0f Z3y;rw[hg,e1];simp
 have f2:∀o,Y0f ls o hBef.toList id=Z0u o p:=fun o=>by unfold Y0f Z3y;rw[hg,e2];simp
 have f3:∀o,Y0f ls o hAft.toList id=Z0u p o:=fun o=>by unfold Y0f Z3y;rw[hg,e3];simp
 simp only[f1,f2,f3]
theorem Y3n{ls:List OpD}{id:Int}(how:ByteArray)(hg:getL ls id=none):Y1j ls how id=0:=by
 rw[Y1y,List.filter_eq_nil_iff.2 (fun o _=>by unfold Y0f;rw[hg];exact Bool.false_ne_true)]
 rfl
theorem X6h{tb p:Nat}{ts:Nat→Nat}{S:StoreD}{Ts:Nat→TrD}{ls:List OpD}{Fp:Nat→Prop}(how:ByteArray)(id:Int)(b5 b3:Nat)(w:World)
 (hT:Tab S Ts (fun _=>ls))(hd:∀i,i<5→depT (Ts i)≤31)(hlen:ls.length≤100000)(ht:TblAt w tb p ts Fp)(hp:PagerAt w p Fp S)(hlow:∀i,Fp i→i<w.heap.size)(hid:In64 id)
 (r5:Row1 w b5 26 [tp tb])(r3:Row1 w b3 3 [.int .i64 id]):
  Calls Tryz.prog 45 #[.string how,.pointer (some ⟨b5,0,none⟩),.pointer (some ⟨b3,0,none⟩)] w fun e w'=>
   (∃A c,e= .returned (.slice A (Y1j ls how id) c))∧∃F',TblAt w' tb p ts F'∧PagerAt w' p F' S∧(∀i,F' i→i<w'.heap.size)∧Keeps Fp F' w w':=by
 have cR:=Z5u (B:=fun _=>False) 1 (Y9x how id) 5 none 0 0 how ⟨#[]⟩ id ⟨#[]⟩ false (-1) false w hT hd hlen ht hp hlow ⟨rfl,hid.1,hid.2,none,0,0,rfl⟩ (V0n w how id) (fun i q=>q.elim) (fun i q=>q.elim) (by exact⟨by decide,by decide⟩)
 rw[V7j]at cR
 have hz:(runL ⟨#[]⟩ false ls (Y9x how id) ls).length=Y1j ls how id:=rfl
 have HZ:=hD hz
 have c5:w.cell? ⟨b5,0,none⟩=some (tp tb):=r5.cell 0
 have c3:w.cell? ⟨b3,0,none⟩=some (.int .i64 id):=r3.cell 0
 clear hT hd hlen ht hp hlow hid r5 r3 hz
 go_enter Tryz.func45,Tryz.ntmps45
 go_wp2_with (go_at_call 38;(with_reducible refine cR.mono ?_);clear cR;rintro e w1 ⟨v1,rfl,hr1⟩;have hv:Sl w1 11 ROp v1 _:=hr1.val;obtain⟨vA,vc,rfl⟩:=hv.form;have HR1:=hD hr1;clear hr1 hv)
 go_ret
 obtain⟨F',q1,q2,q3,q4,_⟩:=HR1.out.ex
 exact⟨⟨vA,vc,rfl⟩,F',q1,q2,q3,q4⟩
theorem Y1o(hAw:AwOk)(V:Value)(ops:List OpD)(id:Int)(w:World)(hs:Sl w 11 ROp V ops)(hin:∀o∈ops,In64 o.result)(hid:In64 id):
  Calls Tryz.prog 11 #[V,.int .i64 id] w fun e w'=>e= .returned (.bool true)∧Ext w w':=by
 obtain⟨A,c,rfl⟩:=hs.form
 have cFil:=Z6u _ ops (w.alloc (.cells #[.int .i64 id] 3)) (hs.ext (Ext.alloc _ _)) hin
 have cA:Hid (∀W:World,Calls Tryz.prog 37 #[] W fun e w'=>e= .returned (.bool true)∧Ext W w'):=hAw
 have hmf:∀(fn:Fn) (first cap:Array Value) (w:World),(Instr.makeFunc fn first cap).run Tryz.prog w= .ok (.func fn first cap) w:=fun _ _ _ _=>rfl
 have HID:=hD hid
 clear hs hin hid hAw
 go_enter Tryz.func11,Tryz.ntmps11
 go_upto_region 2 with (go_at_call 35;(with_reducible refine cFil.mono ?_);clear cFil;rintro e w1 ⟨tb,p,ts,v,F,rfl,hf⟩;obtain⟨vA,vc,rfl⟩:=hf.own.form;have HF:=hD hf;clear hf)
 generalize hw2:World.alloc _ _=w2
 have HX2:Hid (Ext w1 w2):=by unfold Hid;rw[←hw2];exact Ext.alloc _ _
 have HT5:Hid (Row1 w2 w1.heap.size 26 [tp tb]):=by unfold Hid;rw[←hw2];exact Row1.made w1 _ [tp tb]
 have HF2:=hD (HF.out.to HX2.out)
 have HI3:Hid (Row1 w2 w.heap.size 3 [.int .i64 id]):=((Row1.made w _ [.int .i64 id]).ext HF.out.ext (by simp)).ext HX2.out (by have:=HF.out.ext.size;simp at this;omega)
 have HN:Hid (∀F',Keeps F F' w2 w2→¬F w1.heap.size∧¬F w.heap.size):=fun _ _=>⟨fun q=>by have:=(HF.out.new _ q).2;omega,fun q=>by have:=(HF.out.new _ q).1;simp at this;omega⟩
 obtain⟨S,Ts,hI,hP⟩:=HF2.out.ex
 have HI:=hD hI
 have HXW:Hid (Ext w w2):=(Ext.alloc w (.cells #[.int .i64 id] 3)).trans HF2.out.ext
 obtain⟨ls,hls⟩:∃ls,filL (ops.take 24)=ls:=⟨_,rfl⟩
 have hlen:ls.length≤100000:=by
  have h1:=Y2b (ops.take 24) (ops.take 24).length (Nat.le_refl _)
  rw[List.take_length,hls,List.length_take]at h1
  omega
 rw[hls]at HI HF2 HF
 simp only[hls]
 clear hw2 hI
 have HLEN:=hD hlen
 have HLOW:Hid (∀i,F i→i<w2.heap.size):=fun i q=>(HF2.out.new i q).2
 have HNEW:Hid (∀i,F i→w.heap.size≤i):=fun i q=>by have:=(HF2.out.new i q).1;simp at this;omega
 have cN:Hid (∀(how:ByteArray) (W:World) (F1:Nat→Prop),TblAt W tb p ts F1→PagerAt W p F1 S→(∀i,F1 i→i<W.heap.size)→Row1 W w1.heap.size 26 [tp tb]→Row1 W w.heap.size 3 [.int .i64 id]→
   Calls Tryz.prog 45 #[.string how,.pointer (some ⟨w1.heap.size,0,none⟩),.pointer (some ⟨w.heap.size,0,none⟩)] W fun e w'=>(∃A c,e= .returned (.slice A (Y1j ls how id) c))∧∃F',TblAt w' tb p ts F'∧PagerAt w' p F' S∧(∀i,F' i→i<w'.heap.size)∧Keeps F1 F' W w'):=
  fun how W F1 q1 q2 q3 q4 q5=>X6h how id _ _ W HI.out.tab (fun i hi=>HI.out.dep (by omega) i hi) HLEN.out q1 q2 q3 HID.out q4 q5
 have HOP:Hid (∀o∈ls,Z2i o=0):=HI.out.tab.ok 0 (by omega)
 have hT2:=HF2.out.at_
 have b5:w2.cell? ⟨w1.heap.size,0,none⟩=some (tp tb):=HT5.out.cell 0
 have HT2:=hD hT2
 have HP2:=hD hP
 obtain⟨n1,hn1⟩:∃n,Y1j ls hOver id=n:=⟨_,rfl⟩
 obtain⟨n2,hn2⟩:∃n,Y1j ls hBef id=n:=⟨_,rfl⟩
 obtain⟨n3,hn3⟩:∃n,Y1j ls hAft id=n:=⟨_,rfl⟩
 have HS1:Hid (∀p,getL ls id=some p→n1+n2+n3=ls.length):=fun p hg=>by rw[←hn1,←hn2,←hn3];exact V0m hg HOP.out
 have HS0:Hid (getL ls id=none→n1=0∧n2=0∧n3=0):=fun hg=>by rw[←hn1,←hn2,←hn3];exact⟨Y3n _ hg,Y3n _ hg,Y3n _ hg⟩
 have c1:Calls Tryz.prog 45 #[.string ⟨#[111,118,101,114,108,97,112,115]⟩,.pointer (some ⟨w1.heap.size,0,none⟩),.pointer (some ⟨w.heap.size,0,none⟩)] w2 _:=cN.out hOver w2 F HT2.out HP2.out HLOW.out HT5.out HI3.out
 rw[hn1]at c1
 clear hT2 hP hls hlen
 have HN1:=hD hn1;have HN2:=hD hn2;have HN3:=hD hn3
 clear hn1 hn2 hn3
 go_upto_region 6 with (first
  | (go_at_call 45;(with_reducible refine c1.mono ?_);clear c1;rintro e w3 ⟨⟨A3,c3,rfl⟩,F3,ht3,hp3,hl3,hk3⟩;have H3:=hD (And.intro ht3 (And.intro hp3 (And.intro hl3 hk3)));have r5:=hk3.only.row HT5.out (HN.out F Keeps.refl).1;have r3:=hk3.only.row HI3.out (HN.out F Keeps.refl).2;have R3:=hD (And.intro r5 r3);have c2:Calls Tryz.prog 45 #[.string ⟨#[98,101,102,111,114,101]⟩,.pointer (some ⟨w1.heap.size,0,none⟩),.pointer (some ⟨w.heap.size,0,none⟩)] w3 _:=cN.out hBef w3 F3 ht3 hp3 hl3 r5 r3;rw[HN2.out]at c2;clear ht3 hp3 hl3 hk3 r5 r3)
  | (go_at_call 45;(with_reducible refine c2.mono ?_);clear c2;rintro e w4 ⟨⟨A4,c4,rfl⟩,F4,ht4,hp4,hl4,hk4⟩;have hk24:=H3.out.2.2.2.trans hk4;have r5:=hk24.only.row HT5.out (HN.out F Keeps.refl).1;have r3:=hk24.only.row HI3.out (HN.out F Keeps.refl).2;have H4:=hD hk24;have c3':Calls Tryz.prog 45 #[.string ⟨#[97,102,116,101,114]⟩,.pointer (some ⟨w1.heap.size,0,none⟩),.pointer (some ⟨w.heap.size,0,none⟩)] w4 _:=cN.out hAft w4 F4 ht4 hp4 hl4 r5 r3;rw[HN3.out]at c3';clear ht4 hp4 hl4 hk4 hk24 r5 r3)
  | (go_at_call 45;(with_reducible refine c3'.mono ?_);clear c3';rintro e w5 ⟨⟨A5,c5,rfl⟩,F5,ht5,hp5,hl5,hk5⟩;have H5:=hD (H4.out.trans hk5);clear ht5 hp5 hl5 hk5))
 have HX5:Hid (Ext w w5):=(H5.out.fresh HXW.out HNEW.out).1
 have HSL:Hid (Sl w5 11 ROp (.slice vA ls.length vc) ls):=(HF2.out.own.only H5.out.only (fun b q=>HF2.out.apart b q)).sl Z2o (fun _=>rfl)
 have HI5:=hD (H5.out.only.row HI3.out (HN.out F Keeps.refl).2)
 have b3:w5.cell? ⟨w.heap.size,0,none⟩=some (.int .i64 id):=HI5.out.cell 0
 obtain⟨g,hg⟩:∃g,getL ls id=g:=⟨_,rfl⟩
 have cG:=Z9x _ ls id w5 HSL.out
 rw[hg]at cG HS0 HS1
 obtain⟨x,hx⟩:∃x,g.getD opZero=x:=⟨_,rfl⟩
 rw[hx]at cG
 have cG':Calls Tryz.prog 33 #[.slice vA ls.length vc,.int .i64 id] w5 fun e w'=>e= .returned (.tuple #[.agg #[.int .i64 x.id,.int .i64 x.proc,.int .i64 x.object,.int .i64 x.kind,.int .i64 x.method,.int .i64 x.arg,.int .i64 x.second,.bool x.done,.int .i64 x.result,.int .i64 x.invoke,.int .i64 x.ret],.bool g.isSome])∧Ext w5 w':=cG
 clear hg hx cG
 cases g with
 | none=>
   obtain⟨e1,e2,e3⟩:=HS0.out rfl
   subst e1 e2 e3
   simp only[Option.isSome_none]at cG'
   go_wp2_with (first
    | (go_at_call 33;(with_reducible refine cG'.mono ?_);clear cG';rintro e w6 ⟨rfl,hx6⟩;have HX6:=hD (HX5.out.trans hx6);clear hx6)
    | (go_at_call 37;(with_reducible refine(cA.out _).mono ?_);clear cA;rintro e w9 ⟨rfl,hx9⟩;have HX9:=hD ((HX6.out.trans (Ext.alloc _ (.cells #[.int .i64 x.id,.int .i64 x.proc,.int .i64 x.object,.int .i64 x.kind,.int .i64 x.method,.int .i64 x.arg,.int .i64 x.second,.bool x.done,.int .i64 x.result,.int .i64 x.invoke,.int .i64 x.ret] 32))).trans hx9);clear hx9))
   go_ret
   exact⟨rfl,HX9.out⟩
 | some y=>
   have hsum:=HS1.out y rfl
   have HS:Hid (((n1:Int)+(n2:Int)+(n3:Int)==(ls.length:Int))=true):=by unfold Hid;rw[beq_iff_eq];omega
   have hl:ls.length≤100000:=HLEN.out
   have hw1:IntKind.i64.wrap ((n1:Int)+(n2:Int))=(n1:Int)+(n2:Int):=by rw[IntKind.wrap_i64];omega
   have hw2:IntKind.i64.wrap ((n1:Int)+(n2:Int)+(n3:Int))=(n1:Int)+(n2:Int)+(n3:Int):=by rw[IntKind.wrap_i64];omega
   have hs:=HS.out
   simp only[Option.isSome_some]at cG'
   clear hsum
   go_wp2_with (first
    | (go_at_call 33;(with_reducible refine cG'.mono ?_);clear cG';rintro e w6 ⟨rfl,hx6⟩;have HX6:=hD (HX5.out.trans hx6);clear hx6)
    | (go_at_call 37;(with_reducible refine(cA.out _).mono ?_);clear cA;rintro e w9 ⟨rfl,hx9⟩;have HX9:=hD ((HX6.out.trans (Ext.alloc _ (.cells #[.int .i64 x.id,.int .i64 x.proc,.int .i64 x.object,.int .i64 x.kind,.int .i64 x.method,.int .i64 x.arg,.int .i64 x.second,.bool x.done,.int .i64 x.result,.int .i64 x.invoke,.int .i64 x.ret] 32))).trans hx9);clear hx9))
   go_ret
   exact⟨rfl,HX9.out⟩
end Go.Proofs.YtmiolpfanlpfnaaGreat
