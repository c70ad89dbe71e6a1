/- scan.Choose answers the path that the document defines. Conditions: the groups rise, and are fewer than 10^9. -/
import Derived.Test.YtmiolpfanlpfnaaGreatP44
set_option maxRecDepth 100000
set_option maxHeartbeats 1600000
set_option linter.unusedSimpArgs false
set_option linter.unusedVariables false
namespace Go.Proofs.YtmiolpfanlpfnaaGreat
open Go.RowKit
def sId:ByteArray:=⟨#[105,100]⟩
def sInvoke:ByteArray:=⟨#[105,110,118,111,107,101]⟩
def sReturn:ByteArray:=⟨#[114,101,116,117,114,110]⟩
def sObject:ByteArray:=⟨#[111,98,106,101,99,116]⟩
def sProc:ByteArray:=⟨#[112,114,111,99]⟩
def sMethod:ByteArray:=⟨#[109,101,116,104,111,100]⟩
def Y1b(bs:List Bnd)(ops:Int):Pth:=⟨0,[],(Z1h sId bs).lo,(Z1h sId bs).hi,if(Z1h sId bs).lo=(Z1h sId bs).hi then min 1 ops else ops⟩
def Y5g(bs:List Bnd):Prop:=(Z1h sInvoke bs).lo= -9223372036854775808∧(Z1h sInvoke bs).hi=9223372036854775807∧(0<(Z1h sReturn bs).lo∨(Z1h sReturn bs).hi<0)
instance (bs:List Bnd):Decidable (Y5g bs):=by unfold Y5g;infer_instance
def X2v(bs:List Bnd)(ops:Int)(og:List Grp):Pth:=
 if Y5g bs then tryP 2 (Z1h sObject bs) og (Z1h sReturn bs) (Y1b bs ops)else tryP 1 (Z1h sObject bs) og (Z1h sInvoke bs) (Y1b bs ops)
def X7w(bs:List Bnd)(ops:Int)(og pg:List Grp):Pth:=tryP 3 (Z1h sProc bs) pg (Z1h sInvoke bs) (X2v bs ops og)
def Z1q(bs:List Bnd)(ops:Int)(og pg mg:List Grp):Pth:=tryP 4 (Z1h sMethod bs) mg (Z1h sId bs) (X7w bs ops og pg)
structure ChSt (W:World) (g3 g4 g6 g7 g8 g9:Nat) (ops:Int) (OV PV MV:Value) (id inv en:Bnd) (p:Pth):Prop where
 r3:Row1 W g3 61 [.int .i64 ops,OV,PV,MV]
 r4:Row1 W g4 55 [.int .i64 0,.slice none 0 0,.int .i64 0,.int .i64 0,.int .i64 0]
 r6:Row1 W g6 131 id.cells
 r7:Row1 W g7 131 inv.cells
 r8:Row1 W g8 131 en.cells
 r9:PthAt W g9 p
 n49:g4≠g9
section
variable {W W':World} {g3 g4 g6 g7 g8 g9:Nat} {ops:Int} {OV PV MV:Value} {id inv en:Bnd} {p p':Pth}
theorem ChSt.ext(h:ChSt W g3 g4 g6 g7 g8 g9 ops OV PV MV id inv en p)(hb:Ext W W'):ChSt W' g3 g4 g6 g7 g8 g9 ops OV PV MV id inv en p:=
 ⟨h.r3.ext hb h.r3.lt,h.r4.ext hb h.r4.lt,h.r6.ext hb h.r6.lt,h.r7.ext hb h.r7.lt,h.r8.ext hb h.r8.lt,h.r9.ext hb,h.n49⟩
theorem ChSt.but(h:ChSt W g3 g4 g6 g7 g8 g9 ops OV PV MV id inv en p)(hb:But g9 W W')(hp:PthAt W' g9 p'):ChSt W' g3 g4 g6 g7 g8 g9 ops OV PV MV id inv en p':=by
 obtain⟨fv,h1,h2,h3⟩:=h.r9
 have q:=fun e:some g3=some g9=>h.r3.apart h1 (by decide) (by injection e)
 have q6:=fun e:some g6=some g9=>h.r6.apart h1 (by decide) (by injection e)
 have q7:=fun e:some g7=some g9=>h.r7.apart h1 (by decide) (by injection e)
 have q8:=fun e:some g8=some g9=>h.r8.apart h1 (by decide) (by injection e)
 exact⟨h.r3.grown hb q,h.r4.grown hb (fun e=>h.n49 (by injection e)),h.r6.grown hb q6,h.r7.grown hb q7,h.r8.grown hb q8,hp,h.n49⟩
end
def U0x(W:World)(g3 g4 g6 g7 g8 g9:Nat)(ops:Int)(OV PV MV:Value)(id inv en:Bnd)(p:Pth):Prop:=
 (W.cell? ⟨g3,0,none⟩=some (.int .i64 ops)∧W.cell? ⟨g3,1,none⟩=some OV∧W.cell? ⟨g3,2,none⟩=some PV∧W.cell? ⟨g3,3,none⟩=some MV)∧
 (W.cell? ⟨g6,0,none⟩=some (.string id.field)∧W.cell? ⟨g6,1,none⟩=some (.int .i64 id.lo)∧W.cell? ⟨g6,2,none⟩=some (.int .i64 id.hi))∧
 (W.cell? ⟨g7,0,none⟩=some (.string inv.field)∧W.cell? ⟨g7,1,none⟩=some (.int .i64 inv.lo)∧W.cell? ⟨g7,2,none⟩=some (.int .i64 inv.hi))∧
 (W.cell? ⟨g8,0,none⟩=some (.string en.field)∧W.cell? ⟨g8,1,none⟩=some (.int .i64 en.lo)∧W.cell? ⟨g8,2,none⟩=some (.int .i64 en.hi))
theorem ChSt.facts{W:World}{g3 g4 g6 g7 g8 g9:Nat}{ops:Int}{OV PV MV:Value}{id inv en:Bnd}{p:Pth}(h:ChSt W g3 g4 g6 g7 g8 g9 ops OV PV MV id inv en p):
  U0x W g3 g4 g6 g7 g8 g9 ops OV PV MV id inv en p:=
 ⟨⟨h.r3.cell 0,h.r3.cell 1,h.r3.cell 2,h.r3.cell 3⟩,⟨h.r6.cell 0,h.r6.cell 1,h.r6.cell 2⟩,⟨h.r7.cell 0,h.r7.cell 1,h.r7.cell 2⟩,⟨h.r8.cell 0,h.r8.cell 1,h.r8.cell 2⟩⟩
theorem Z5f(v:Value)(xs:List Bnd)(f:ByteArray)(w:World)(b:Bnd)(h:Z1h f xs=b)(hs:Sl w 3 RBnd v xs):
  Calls Tryz.prog 75 #[v,.string f] w fun e w'=>e= .returned (.agg #[.string b.field,.int .i64 b.lo,.int .i64 b.hi])∧Ext w w':=by
 subst h
 exact X6d v xs f w hs
theorem Z7v(V OV PV MV:Value)(bs:List Bnd)(ops:Int)(og pg mg:List Grp)(w:World)(hs:Sl w 3 RBnd V bs)
 (ho:Sl w 2 RG OV og)(hp:Sl w 2 RG PV pg)(hm:Sl w 2 RG MV mg)(ro:Y4x og)(rp:Y4x pg)(rm:Y4x mg)
 (no:og.length≤1000000000)(np:pg.length≤1000000000)(nm:mg.length≤1000000000):
  Calls Tryz.prog 28 #[V,.agg #[.int .i64 ops,OV,PV,MV]] w
   fun e w'=>(∃fv,e= .returned (.agg #[.int .i64 (Z1q bs ops og pg mg).way,fv,.int .i64 (Z1q bs ops og pg mg).lo,.int .i64 (Z1q bs ops og pg mg).hi,.int .i64 (Z1q bs ops og pg mg).cost])∧Sl w' 1 RI fv (Z1q bs ops og pg mg).front∧∀g',fv.ownBlock=some g'→∃cs,Row1 w' g' 3 cs∧w.heap.size≤g')∧Ext w w':=by
 have HS:=hD hs
 have HO:=hD ho
 have HP:=hD hp
 have HM:=hD hm
 clear hs ho hp hm
 have hmf:∀(fn:Fn) (first cap:Array Value) (w:World),(Instr.makeFunc fn first cap).run Tryz.prog w= .ok (.func fn first cap) w:=fun _ _ _ _=>rfl
 obtain⟨idB,hid⟩:∃b,Z1h sId bs=b:=⟨_,rfl⟩
 obtain⟨inB,hin⟩:∃b,Z1h sInvoke bs=b:=⟨_,rfl⟩
 obtain⟨enB,hen⟩:∃b,Z1h sReturn bs=b:=⟨_,rfl⟩
 have HID:=hD hid
 have HIN:=hD hin
 have HEN:=hD hen
 clear hid hin hen
 go_enter Tryz.func28,Tryz.ntmps28
 go_wp2_with fail
 refine(Z5f _ bs _ _ idB HID.out (HS.out.ext (by exact Xt))).mono ?_
 rintro e w1 ⟨rfl,hb1⟩
 have K1:=hD (Ext.trans (by exact Xt:Ext w _) hb1)
 have R3:=(((Row1.made w 61 [.int .i64 ops,OV,PV,MV]).alloc _).ext hb1 (by simp;omega))
 have R4:=(Row1.made' (w:=w.alloc (.cells #[.int .i64 ops,OV,PV,MV] 61)) (n:=w.heap.size+1) (by simp) 55 [.int .i64 0,.slice none 0 0,.int .i64 0,.int .i64 0,.int .i64 0]).ext hb1 (by simp)
 have HR3:=hD R3
 have HR4:=hD R4
 clear hb1 R3 R4
 go_wp2_with fail
 refine(Z5f _ bs _ _ inB HIN.out (HS.out.ext K1.out)).mono ?_
 rintro e w2 ⟨rfl,hb2⟩
 have K2:=hD (Ext.trans K1.out hb2)
 have HR3:=hD (HR3.out.ext hb2 HR3.out.lt)
 have HR4:=hD (HR4.out.ext hb2 HR4.out.lt)
 clear hb2
 go_wp2_with fail
 refine(Z5f _ bs _ _ enB HEN.out (HS.out.ext K2.out)).mono ?_
 rintro e w3 ⟨rfl,hb3⟩
 have K3:=hD (Ext.trans K2.out hb3)
 have HR3:=hD (HR3.out.ext hb3 HR3.out.lt)
 have HR4:=hD (HR4.out.ext hb3 HR4.out.lt)
 clear hb3
 have hz:=HR4.out.lt
 have hz3:w.heap.size<w3.heap.size:=by omega
 have hz4:w.heap.size<w3.heap.size+1:=by omega
 have hz5:w.heap.size<w3.heap.size+1+1:=by omega
 have hz6:w.heap.size<w3.heap.size+1+1+1:=by omega
 have c30:=HR3.out.cell 0
 simp at c30
 go_wp2_with fail
 refine(Y1m _ _ _ _).mono ?_
 rintro e w4 ⟨rfl,hb4⟩
 have K4:=hD (Ext.trans (by exact Xx (K3.out):Ext w _) hb4)
 have S4:ChSt w4 w.heap.size (w.heap.size+1) w3.heap.size (w3.heap.size+1) (w3.heap.size+1+1) (w3.heap.size+1+1+1) ops OV PV MV idB inB enB ⟨0,[],idB.lo,idB.hi,ops⟩:=
  ⟨((((HR3.out.alloc _).alloc _).alloc _).alloc _).ext hb4 (by simp;omega),((((HR4.out.alloc _).alloc _).alloc _).alloc _).ext hb4 (by simp;omega),
    ((((Row1.made _ _ idB.cells).alloc _).alloc _).alloc _).ext hb4 (by simp<;>omega),(((Row1.made' (by simp) _ inB.cells).alloc _).alloc _).ext hb4 (by simp<;>omega),
    ((Row1.made' (by simp) _ enB.cells).alloc _).ext hb4 (by simp<;>omega),⟨.slice none 0 0,(Row1.made' (by simp) _ [.int .i64 0,.slice none 0 0,.int .i64 idB.lo,.int .i64 idB.hi,.int .i64 ops]).ext hb4 (by simp),Sl.nil _ _ _,by simp[Value.ownBlock]⟩,by omega⟩
 clear hb4
 have HS4:=hD S4
 clear S4 HR3 HR4 c30
 have hg3:=hz3
 clear hz3 hz4 hz5 hz6
 generalize hG:w3.heap.size=G at *
 go_upto_if 27 with fail
 go_cut [] (fun wx=>Ext w wx∧ChSt wx w.heap.size (w.heap.size+1) G (G+1) (G+1+1) (G+1+1+1) ops OV PV MV idB inB enB (Y1b bs ops))
 case first=>
  have hb0:Y1b bs ops=⟨0,[],idB.lo,idB.hi,if idB.lo=idB.hi then min 1 ops else ops⟩:=by unfold Y1b;rw[HID.out]
  have HB0:=hD hb0
  clear hb0
  obtain⟨⟨a30,_⟩,_⟩:=HS4.out.facts
  obtain⟨fv,hr9,hs9,ht9⟩:=HS4.out.r9
  have hn9:=Y4f ht9 hr9 (by decide)
  have HT9:=hD ht9
  clear ht9
  have d4:=hr9.cell 4
  have e4:=hr9.soft 4
  simp at d4
  have HR9:=hD hr9
  clear hr9
  by_cases heq:idB.lo=idB.hi
  ·have hq:(idB.lo==idB.hi)=true:=by simpa using heq
   have HEQ:=hD heq
   clear heq
   go_wp2_with fail
   all_goals
    go_meet
    have hmin:ops<1∨1≤ops:=by omega
    rw[HB0.out,if_pos HEQ.out]
    refine⟨by exact Xx (K4.out),HS4.out.but (by (repeat' (with_reducible first | exact But.refl | exact But.refl | refine But.drewN ?_ _ | refine But.drew ?_ | refine But.setCell ?_ ?_ _ | refine But.alloc ?_ _))<;>(first | exact .inl rfl | (right;simp;done) | (right;simp;omega))) ⟨fv,?_,hs9.but (by (repeat' (with_reducible first | exact But.refl | exact But.refl | refine But.drewN ?_ _ | refine But.drew ?_ | refine But.setCell ?_ ?_ _ | refine But.alloc ?_ _))<;>(first | exact .inl rfl | (right;simp;done) | (right;simp;omega))) hn9,X0i HT9.out (by (repeat' (with_reducible first | exact But.refl | exact But.refl | refine But.drewN ?_ _ | refine But.drew ?_ | refine But.setCell ?_ ?_ _ | refine But.alloc ?_ _))<;>(first | exact .inl rfl | (right;simp;done) | (right;simp;omega))) hn9⟩⟩
    first
     | exact HR9.out.set 4 _
     | (have h1:ops<1:=by first | assumption | omega
        rw[show min 1 ops=ops by omega]
        exact HR9.out.set 4 _)
     | (have h1:1≤ops:=by first | assumption | omega
        rw[show min 1 ops=1 by omega]
        exact HR9.out.set 4 _)
  ·have hq:(idB.lo==idB.hi)=false:=by simpa using heq
   go_wp2_with fail
   go_meet
   rw[HB0.out,if_neg heq]
   exact⟨K4.out,HS4.out⟩
 case rest=>
  obtain⟨hext,hst⟩:=hcut
  have KC:=hD hext
  have SC:=hD hst
  have hcs:=hext.size
  clear hext hst HS4 K4
  obtain⟨obB,hob⟩:∃b,Z1h sObject bs=b:=⟨_,rfl⟩
  have HOB:=hD hob
  clear hob
  go_wp2_with fail
  refine(Z5f _ bs _ _ obB HOB.out (HS.out.ext KC.out)).mono ?_
  rintro e w5 ⟨rfl,hb5⟩
  have K5:=hD (Ext.trans KC.out hb5)
  have S5:=hD (SC.out.ext hb5)
  have hz5:G+1+1+1<w5.heap.size:=by obtain⟨fv,h,_⟩:=S5.out.r9;exact h.lt
  clear hb5 SC KC hcs
  have hzw:w.heap.size<w5.heap.size:=by omega
  have hz50:G<w5.heap.size:=by omega
  have hz51:G+1<w5.heap.size:=by omega
  have hz52:G+1+1<w5.heap.size:=by omega
  obtain⟨⟨a30,a31,a32,a33⟩,⟨a60,a61,a62⟩,⟨a70,a71,a72⟩,a80,a81,a82⟩:=S5.out.facts
  go_upto_region 8 with fail
  go_cut [52] (fun s52 wx=>s52= .bool (decide (Y5g bs))∧Ext w wx∧wx.heap.size=w5.heap.size+1∧Row1 wx w5.heap.size 131 obB.cells∧
   ChSt wx w.heap.size (w.heap.size+1) G (G+1) (G+1+1) (G+1+1+1) ops OV PV MV idB inB enB (Y1b bs ops))
  case first=>
   have HBy:Hid (decide (Y5g bs)=(decide (inB.lo= -9223372036854775808)&&(decide (inB.hi=9223372036854775807)&&(decide (0<enB.lo) || decide (enB.hi<0))))):=by
    unfold Hid
    rw[←HIN.out,←HEN.out,Bool.eq_iff_iff,decide_eq_true_iff]
    simp[Y5g]
   by_cases h1:inB.lo= -9223372036854775808
   ·by_cases h2:inB.hi=9223372036854775807
    ·by_cases h3:0<enB.lo
     ·have q1:(inB.lo== -9223372036854775808)=true:=by simpa using h1
      have q2:(inB.hi==9223372036854775807)=true:=by simpa using h2
      have q3:decide (0<enB.lo)=true:=by simpa using h3
      have HH1:=hD h1
      have HH2:=hD h2
      clear h1 h2
      go_wp2_with fail
      go_meet
      refine⟨by rw[HBy.out,HH1.out,HH2.out];simp[h3],by exact Xx (K5.out),by simp,Row1.made _ _ obB.cells,S5.out.ext (Ext.alloc _ _)⟩
     ·by_cases h4:enB.hi<0
      ·have q1:(inB.lo== -9223372036854775808)=true:=by simpa using h1
       have q2:(inB.hi==9223372036854775807)=true:=by simpa using h2
       have q3:decide (0<enB.lo)=false:=by simpa using h3
       have q4:decide (enB.hi<0)=true:=by simpa using h4
       have HH1:=hD h1
       have HH2:=hD h2
       clear h1 h2
       go_wp2_with fail
       go_meet
       refine⟨by rw[HBy.out,HH1.out,HH2.out];simp[h4],by exact Xx (K5.out),by simp,Row1.made _ _ obB.cells,S5.out.ext (Ext.alloc _ _)⟩
      ·have q1:(inB.lo== -9223372036854775808)=true:=by simpa using h1
       have q2:(inB.hi==9223372036854775807)=true:=by simpa using h2
       have q3:decide (0<enB.lo)=false:=by simpa using h3
       have q4:decide (enB.hi<0)=false:=by simpa using h4
       have HH1:=hD h1
       have HH2:=hD h2
       clear h1 h2
       go_wp2_with fail
       go_meet
       refine⟨by rw[HBy.out,HH1.out,HH2.out];simp;omega,by exact Xx (K5.out),by simp,Row1.made _ _ obB.cells,S5.out.ext (Ext.alloc _ _)⟩
    ·have q1:(inB.lo== -9223372036854775808)=true:=by simpa using h1
     have q2:(inB.hi==9223372036854775807)=false:=by simpa using h2
     have HH1:=hD h1
     clear h1
     go_wp2_with fail
     go_meet
     refine⟨by rw[HBy.out];simp[h2],by exact Xx (K5.out),by simp,Row1.made _ _ obB.cells,S5.out.ext (Ext.alloc _ _)⟩
   ·have q1:(inB.lo== -9223372036854775808)=false:=by simpa using h1
    go_wp2_with fail
    go_meet
    refine⟨by rw[HBy.out];simp[h1],by exact Xx (K5.out),by simp,Row1.made _ _ obB.cells,S5.out.ext (Ext.alloc _ _)⟩
  case rest=>
   obtain⟨rfl,hext,hsz,hro,hst⟩:=hcut
   have KC:=hD hext
   have SC:=hD hst
   have RO:=hD hro
   have hzo:=hro.lt
   generalize hGo:w5.heap.size=Go at *
   clear hext hst hro S5 K5 a30 a31 a32 a33 a60 a61 a62 a70 a71 a72 a80 a81 a82
   obtain⟨⟨a30,a31,a32,a33⟩,⟨a60,a61,a62⟩,⟨a70,a71,a72⟩,a80,a81,a82⟩:=SC.out.facts
   have ao0:wc.cell? ⟨Go,0,none⟩=some (.string obB.field):=RO.out.cell 0
   have ao1:wc.cell? ⟨Go,1,none⟩=some (.int .i64 obB.lo):=RO.out.cell 1
   have ao2:wc.cell? ⟨Go,2,none⟩=some (.int .i64 obB.hi):=RO.out.cell 2
   have hb1:Hid (X2v bs ops og=if Y5g bs then tryP 2 obB og enB (Y1b bs ops)else tryP 1 obB og inB (Y1b bs ops)):=by unfold Hid X2v;rw[HOB.out,HEN.out,HIN.out]
   go_upto_if 52 with fail
   go_cut [] (fun wx=>Ext w wx∧ChSt wx w.heap.size (w.heap.size+1) G (G+1) (G+1+1) (G+1+1+1) ops OV PV MV idB inB enB (X2v bs ops og))
   case first=>
    by_cases hby:Y5g bs
    ·have hd:decide (Y5g bs)=true:=by simpa using hby
     have HBY:=hD hby
     clear hby
     go_wp2_with fail
     refine(Z5y 2 obB enB OV og _ _ _ (HO.out.ext KC.out) ro no SC.out.r9).mono ?_
     rintro e w6 ⟨rfl,hp6,hb6⟩
     go_wp2_with fail
     go_meet
     rw[hb1.out,if_pos HBY.out]
     exact⟨((But.of KC.out).trans hb6).fresh (by omega),SC.out.but hb6 hp6⟩
    ·have hd:decide (Y5g bs)=false:=by simpa using hby
     have HBY:=hD hby
     clear hby
     go_wp2_with fail
     refine(Z5y 1 obB inB OV og _ _ _ (HO.out.ext KC.out) ro no SC.out.r9).mono ?_
     rintro e w6 ⟨rfl,hp6,hb6⟩
     go_wp2_with fail
     go_meet
     rw[hb1.out,if_neg HBY.out]
     exact⟨((But.of KC.out).trans hb6).fresh (by omega),SC.out.but hb6 hp6⟩
   case rest=>
    obtain⟨hext,hst⟩:=hcut
    clear a30 a31 a32 a33 a60 a61 a62 a70 a71 a72 a80 a81 a82 ao0 ao1 ao2 hb1 RO SC KC
    have hzp:G+1+1+1<wc.heap.size:=by obtain⟨fv,h,_⟩:=hst.r9;exact h.lt
    have SC:=hD hst
    have KC:=hD hext
    clear hst hext hzw hz50 hz51 hz52 hz5 hsz hzo hGo hz
    have hzw:w.heap.size<wc.heap.size:=by omega
    have hz50:G<wc.heap.size:=by omega
    have hz51:G+1<wc.heap.size:=by omega
    have hz52:G+1+1<wc.heap.size:=by omega
    obtain⟨⟨a30,a31,a32,a33⟩,⟨a60,a61,a62⟩,⟨a70,a71,a72⟩,a80,a81,a82⟩:=SC.out.facts
    obtain⟨prB,hpr⟩:∃b,Z1h sProc bs=b:=⟨_,rfl⟩
    have HPR:=hD hpr
    clear hpr
    go_upto_region 11 with fail
    go_cut [] (fun wx=>Ext w wx∧ChSt wx w.heap.size (w.heap.size+1) G (G+1) (G+1+1) (G+1+1+1) ops OV PV MV idB inB enB (X7w bs ops og pg))
    case first=>
     go_region_held3 (fun w'=>w'.cell? ⟨w.heap.size,2,none⟩=some PV∧w'.cell? ⟨G+1,0,none⟩=some (.string inB.field)∧w'.cell? ⟨G+1,1,none⟩=some (.int .i64 inB.lo)∧w'.cell? ⟨G+1,2,none⟩=some (.int .i64 inB.hi))
      (first | exact⟨y32,y70,y71,y72⟩ | exact⟨z32,z70,z71,z72⟩ | exact⟨a32,a70,a71,a72⟩ | go_keep)
      (first
        | (go_at_call 75;refine(Z5f _ bs _ _ prB HPR.out (HS.out.ext (by exact Xx (KC.out)))).mono ?_;rintro e w6 ⟨rfl,hb6⟩;have y32:=(hb6.cell (p:=⟨w.heap.size,2,none⟩) hzw).trans a32;have y70:=(hb6.cell (p:=⟨G+1,0,none⟩) hz51).trans a70;have y71:=(hb6.cell (p:=⟨G+1,1,none⟩) hz51).trans a71;have y72:=(hb6.cell (p:=⟨G+1,2,none⟩) hz51).trans a72;have HB6:=hD hb6;clear hb6)
        | (go_at_call 77;refine(Z5y 3 prB inB PV pg _ _ _ (HP.out.ext (Ext.trans (by exact Xx (KC.out)) HB6.out)) rp np ((SC.out.ext (by exact Xt)).ext HB6.out).r9).mono ?_;rintro e w7 ⟨rfl,hp7,hb7⟩;have z32:=(hb7.cells.1 w.heap.size 2 (Nat.lt_of_lt_of_le hzw HB6.out.size) (by omega)).trans y32;have z70:=(hb7.cells.1 (G+1) 0 (Nat.lt_of_lt_of_le hz51 HB6.out.size) (by omega)).trans y70;have z71:=(hb7.cells.1 (G+1) 1 (Nat.lt_of_lt_of_le hz51 HB6.out.size) (by omega)).trans y71;have z72:=(hb7.cells.1 (G+1) 2 (Nat.lt_of_lt_of_le hz51 HB6.out.size) (by omega)).trans y72))
     go_wp2_with fail
     go_meet
     refine⟨((But.of (Ext.trans (by exact Xx (KC.out):Ext w _) HB6.out)).trans hb7).fresh (by omega),?_⟩
     rw[show X7w bs ops og pg=tryP 3 prB pg inB (X2v bs ops og)by unfold X7w;rw[HPR.out,HIN.out]]
     exact((SC.out.ext (by exact Xx (Ext.refl _))).ext HB6.out).but hb7 hp7
    case rest=>
     obtain⟨hext,hst⟩:=hcut
     clear a30 a31 a32 a33 a60 a61 a62 a70 a71 a72 a80 a81 a82 SC KC hzw hz50 hz51 hz52 hzp
     have hzp:G+1+1+1<wc.heap.size:=by obtain⟨fv,h,_⟩:=hst.r9;exact h.lt
     have SC:=hD hst
     have KC:=hD hext
     clear hst hext
     have hzw:w.heap.size<wc.heap.size:=by omega
     have hz50:G<wc.heap.size:=by omega
     obtain⟨⟨a30,a31,a32,a33⟩,⟨a60,a61,a62⟩,_,_⟩:=SC.out.facts
     obtain⟨meB,hme⟩:∃b,Z1h sMethod bs=b:=⟨_,rfl⟩
     have HME:=hD hme
     clear hme
     go_upto_region 12 with fail
     go_cut [] (fun wx=>Ext w wx∧ChSt wx w.heap.size (w.heap.size+1) G (G+1) (G+1+1) (G+1+1+1) ops OV PV MV idB inB enB (Z1q bs ops og pg mg))
     case first=>
      go_region_held3 (fun w'=>w'.cell? ⟨w.heap.size,3,none⟩=some MV∧w'.cell? ⟨G,0,none⟩=some (.string idB.field)∧w'.cell? ⟨G,1,none⟩=some (.int .i64 idB.lo)∧w'.cell? ⟨G,2,none⟩=some (.int .i64 idB.hi))
       (first | exact⟨y33,y60,y61,y62⟩ | exact⟨z33,z60,z61,z62⟩ | exact⟨a33,a60,a61,a62⟩ | go_keep)
       (first
         | (go_at_call 75;refine(Z5f _ bs _ _ meB HME.out (HS.out.ext (by exact Xx (KC.out)))).mono ?_;rintro e w6 ⟨rfl,hb6⟩;have y33:=(hb6.cell (p:=⟨w.heap.size,3,none⟩) hzw).trans a33;have y60:=(hb6.cell (p:=⟨G,0,none⟩) hz50).trans a60;have y61:=(hb6.cell (p:=⟨G,1,none⟩) hz50).trans a61;have y62:=(hb6.cell (p:=⟨G,2,none⟩) hz50).trans a62;have HB6:=hD hb6;clear hb6)
         | (go_at_call 77;refine(Z5y 4 meB idB MV mg _ _ _ (HM.out.ext (Ext.trans (by exact Xx (KC.out)) HB6.out)) rm nm ((SC.out.ext (by exact Xt)).ext HB6.out).r9).mono ?_;rintro e w7 ⟨rfl,hp7,hb7⟩;have z33:=(hb7.cells.1 w.heap.size 3 (Nat.lt_of_lt_of_le hzw HB6.out.size) (by omega)).trans y33;have z60:=(hb7.cells.1 G 0 (Nat.lt_of_lt_of_le hz50 HB6.out.size) (by omega)).trans y60;have z61:=(hb7.cells.1 G 1 (Nat.lt_of_lt_of_le hz50 HB6.out.size) (by omega)).trans y61;have z62:=(hb7.cells.1 G 2 (Nat.lt_of_lt_of_le hz50 HB6.out.size) (by omega)).trans y62))
      go_wp2_with fail
      go_meet
      refine⟨((But.of (Ext.trans (by exact Xx (KC.out):Ext w _) HB6.out)).trans hb7).fresh (by omega),?_⟩
      rw[show Z1q bs ops og pg mg=tryP 4 meB mg idB (X7w bs ops og pg)by unfold Z1q;rw[HME.out,HID.out]]
      exact((SC.out.ext (by exact Xx (Ext.refl _))).ext HB6.out).but hb7 hp7
     case rest=>
      obtain⟨hext,hst⟩:=hcut
      clear a30 a31 a32 a33 a60 a61 a62 SC KC hzw hz50 hzp
      obtain⟨fv,hr9,hs9,ht9⟩:=hst.r9
      have hn4:=Y4f ht9 hst.r4 (by decide)
      have HT9:=hD ht9
      clear ht9
      obtain⟨A9,c9,rfl⟩:=hs9.form
      have b0:wc.cell? ⟨G+1+1+1,0,none⟩=some (.int .i64 (Z1q bs ops og pg mg).way):=hr9.cell 0
      have b1:wc.cell? ⟨G+1+1+1,1,none⟩=some (.slice A9 (Z1q bs ops og pg mg).front.length c9):=hr9.cell 1
      have b2:wc.cell? ⟨G+1+1+1,2,none⟩=some (.int .i64 (Z1q bs ops og pg mg).lo):=hr9.cell 2
      have b3:wc.cell? ⟨G+1+1+1,3,none⟩=some (.int .i64 (Z1q bs ops og pg mg).hi):=hr9.cell 3
      have b4:wc.cell? ⟨G+1+1+1,4,none⟩=some (.int .i64 (Z1q bs ops og pg mg).cost):=hr9.cell 4
      have c0:wc.cell? ⟨w.heap.size+1,0,none⟩=some (.int .i64 0):=hst.r4.cell 0
      have f0:wc.frozen? ⟨w.heap.size+1,0,none⟩=false:=hst.r4.soft 0
      have c1:wc.cell? ⟨w.heap.size+1,1,none⟩=some (.slice none 0 0):=hst.r4.cell 1
      have f1:wc.frozen? ⟨w.heap.size+1,1,none⟩=false:=hst.r4.soft 1
      have c2:wc.cell? ⟨w.heap.size+1,2,none⟩=some (.int .i64 0):=hst.r4.cell 2
      have f2:wc.frozen? ⟨w.heap.size+1,2,none⟩=false:=hst.r4.soft 2
      have c3:wc.cell? ⟨w.heap.size+1,3,none⟩=some (.int .i64 0):=hst.r4.cell 3
      have f3:wc.frozen? ⟨w.heap.size+1,3,none⟩=false:=hst.r4.soft 3
      have c4:wc.cell? ⟨w.heap.size+1,4,none⟩=some (.int .i64 0):=hst.r4.cell 4
      have f4:wc.frozen? ⟨w.heap.size+1,4,none⟩=false:=hst.r4.soft 4
      have hr4lt:=hst.r4.lt
      have SC:=hD hst
      have KC:=hD hext
      have HS9:=hD hs9
      clear hst hext hr9 hs9
      go_wp2_with fail
      refine bodyPost_ret (v:= .agg #[.int .i64 (Z1q bs ops og pg mg).way,.slice A9 (Z1q bs ops og pg mg).front.length c9,.int .i64 (Z1q bs ops og pg mg).lo,.int .i64 (Z1q bs ops og pg mg).hi,.int .i64 (Z1q bs ops og pg mg).cost]) (by simp[results,Tryz.results28,go_sem,b0,b1,b2,b3,b4,c0,c1,c2,c3,c4]) rfl ⟨⟨_,rfl,?_,?_⟩,?_⟩
      ·exact HS9.out.but (g:=w.heap.size+1) (by (repeat' (with_reducible first | exact But.refl | exact But.refl | refine But.drewN ?_ _ | refine But.drew ?_ | refine But.setCell ?_ ?_ _ | refine But.alloc ?_ _))<;>(first | exact .inl rfl | (right;simp;done) | (right;simp;omega))) hn4
      ·exact V2o (X0i HT9.out (g:=w.heap.size+1) (by (repeat' (with_reducible first | exact But.refl | exact But.refl | refine But.drewN ?_ _ | refine But.drew ?_ | refine But.setCell ?_ ?_ _ | refine But.alloc ?_ _))<;>(first | exact .inl rfl | (right;simp;done) | (right;simp;omega))) hn4) (by omega)
      ·exact Xx (KC.out)
end Go.Proofs.YtmiolpfanlpfnaaGreat
