/- The law FindValues answers true for all operations, fields and conditions that can be read. Conditions: what a reading gives. -/
import Derived.Test.YtmiolpfanlpfnaaGreatQ48
import Derived.Test.YtmiolpfanlpfnaaGreatQ49
import Derived.Test.YtmiolpfanlpfnaaGreatQ50
set_option maxRecDepth 100000
set_option maxHeartbeats 4000000
namespace Go.Proofs.YtmiolpfanlpfnaaGreat
set_option linter.unusedSimpArgs false
set_option linter.unusedVariables false
open Go.RowKit
theorem Y0p(hAw:AwOk)(o:OpD)(f:ByteArray)(d:Nat)(t:ND)(nk:Int)(nA:Option Addr)(nm nc:Nat)(nf ns:ByteArray)(nv:Int)(w:World)
 (hn:RN ⟨nk,.slice nA nm nc,nf,ns,nv⟩ (NCell.cells ⟨nk,.slice nA nm nc,nf,ns,nv⟩))(hd:Nd w d t ⟨nk,.slice nA nm nc,nf,ns,nv⟩):
  Calls Tryz.prog 8 #[.agg #[.int .i64 o.id,.int .i64 o.proc,.int .i64 o.object,.int .i64 o.kind,.int .i64 o.method,.int .i64 o.arg,.int .i64 o.second,.bool o.done,.int .i64 o.result,.int .i64 o.invoke,.int .i64 o.ret],.string f,.agg #[.int .i64 nk,.slice nA nm nc,.string nf,.string ns,.int .i64 nv]] w fun e w'=>e= .returned (.bool true)∧Ext w w':=by
 obtain⟨W0,hW0⟩:∃W0,(w.alloc (.cells #[.int .i64 o.id,.int .i64 o.proc,.int .i64 o.object,.int .i64 o.kind,.int .i64 o.method,.int .i64 o.arg,.int .i64 o.second,.bool o.done,.int .i64 o.result,.int .i64 o.invoke,.int .i64 o.ret] 32)).alloc (.cells #[.int .i64 nk,.slice nA nm nc,.string nf,.string ns,.int .i64 nv] 50)=W0:=⟨_,rfl⟩
 have HX0:Hid (Ext w W0):=by unfold Hid;rw[←hW0];exact(Ext.alloc _ _).trans (Ext.alloc _ _)
 have HR0:Hid (Row1 W0 w.heap.size 32 o.cells):=by unfold Hid;rw[←hW0];exact(Row1.made w _ o.cells).alloc _
 have HN0:Hid (Row1 W0 (w.heap.size+1) 50 [.int .i64 nk,.slice nA nm nc,.string nf,.string ns,.int .i64 nv]):=by unfold Hid;rw[←hW0];exact Row1.made' (by simp) _ [.int .i64 nk,.slice nA nm nc,.string nf,.string ns,.int .i64 nv]
 have HC:Hid (∀W:World,Ext W0 W→(W.cell? ⟨w.heap.size,0,none⟩=some (.int .i64 o.id)∧W.cell? ⟨w.heap.size,0+1,none⟩=some (.int .i64 o.proc)∧W.cell? ⟨w.heap.size,0+2,none⟩=some (.int .i64 o.object)∧W.cell? ⟨w.heap.size,0+3,none⟩=some (.int .i64 o.kind)∧W.cell? ⟨w.heap.size,0+4,none⟩=some (.int .i64 o.method)∧W.cell? ⟨w.heap.size,0+5,none⟩=some (.int .i64 o.arg)∧W.cell? ⟨w.heap.size,0+6,none⟩=some (.int .i64 o.second)∧W.cell? ⟨w.heap.size,0+7,none⟩=some (.bool o.done)∧W.cell? ⟨w.heap.size,0+8,none⟩=some (.int .i64 o.result)∧W.cell? ⟨w.heap.size,0+9,none⟩=some (.int .i64 o.invoke)∧W.cell? ⟨w.heap.size,0+10,none⟩=some (.int .i64 o.ret))∧W.cell? ⟨w.heap.size+1,0,none⟩=some (.int .i64 nk)∧W.cell? ⟨w.heap.size+1,1,none⟩=some (.slice nA nm nc)∧W.cell? ⟨w.heap.size+1,2,none⟩=some (.string nf)∧W.cell? ⟨w.heap.size+1,3,none⟩=some (.string ns)∧W.cell? ⟨w.heap.size+1,4,none⟩=some (.int .i64 nv)):=fun W h=>by
  have r0:=HR0.out.ext h HR0.out.lt
  have r1:=HN0.out.ext h HN0.out.lt
  exact⟨⟨r0.cell 0,r0.cell 1,r0.cell 2,r0.cell 3,r0.cell 4,r0.cell 5,r0.cell 6,r0.cell 7,r0.cell 8,r0.cell 9,r0.cell 10⟩,r1.cell 0,r1.cell 1,r1.cell 2,r1.cell 3,r1.cell 4⟩
 have cZ:Hid (∀W,Ext w W→Calls Tryz.prog 26 #[.agg #[.int .i64 nk,.slice nA nm nc,.string nf,.string ns,.int .i64 nv],.int .i64 0] W fun e w'=>X2s e∧Ext W w'):=fun W hW=>Y8z d ⟨nk,.slice nA nm nc,nf,ns,nv⟩ 0 W (NOk.ext hW _ _ hd.ok) (by decide) (by decide)
 have cA:Hid (∀W:World,Calls Tryz.prog 37 #[] W fun e w'=>e= .returned (.bool true)∧Ext W w'):=hAw
 obtain⟨va,hva⟩:∃va,(Z1j o f).getD 0=va:=⟨_,rfl⟩
 obtain⟨vb,hvb⟩:∃vb,(Z1j o f).isSome=vb:=⟨_,rfl⟩
 obtain⟨way,hwy⟩:∃way,(Z3x t).1=way:=⟨_,rfl⟩
 obtain⟨fl,hfl⟩:∃fl,(Z3x t).2=fl:=⟨_,rfl⟩
 have c1:Hid (∀W,Calls Tryz.prog 40 #[.agg #[.int .i64 o.id,.int .i64 o.proc,.int .i64 o.object,.int .i64 o.kind,.int .i64 o.method,.int .i64 o.arg,.int .i64 o.second,.bool o.done,.int .i64 o.result,.int .i64 o.invoke,.int .i64 o.ret],.string f] W fun e w'=>e= .returned (.tuple #[.int .i64 va,.bool vb])∧Ext W w'):=fun W=>by
  have h1:=Z5t o f W
  rw[hva,hvb]at h1;exact h1
 have c2:Hid (∀W,Calls Tryz.prog 41 #[.agg #[.int .i64 o.id,.int .i64 o.proc,.int .i64 o.object,.int .i64 o.kind,.int .i64 o.method,.int .i64 o.arg,.int .i64 o.second,.bool o.done,.int .i64 o.result,.int .i64 o.invoke,.int .i64 o.ret],.string f] W fun e w'=>e= .returned (.tuple #[.int .i64 va,.bool vb])∧Ext W w'):=fun W=>by
  have h1:=Z3n o f W
  rw[hva,hvb]at h1;exact h1
 have c3:Hid (∀W,Ext w W→Calls Tryz.prog 42 #[.agg #[.int .i64 nk,.slice nA nm nc,.string nf,.string ns,.int .i64 nv]] W fun e w'=>(∃v,e= .returned (.tuple #[.int .i64 (way:Nat),v])∧OwnL w' W.heap.size 3 1 encN v fl)∧Ext W w'):=fun W hW=>by
  have h1:=Y1g d t nk nA nm nc nf ns nv W hn (hd.ext hW)
  rw[hwy,hfl]at h1;exact h1
 have c4:Hid (∀W,Ext w W→Calls Tryz.prog 43 #[.agg #[.int .i64 nk,.slice nA nm nc,.string nf,.string ns,.int .i64 nv]] W fun e w'=>(∃v,e= .returned (.tuple #[.int .i64 (way:Nat),v])∧OwnL w' W.heap.size 3 1 encN v fl)∧Ext W w'):=fun W hW=>by
  have h1:=X1k d t nk nA nm nc nf ns nv W hn (hd.ext hW)
  rw[hwy,hfl]at h1;exact h1
 have c5:Hid (∀(V U:Value) (W:World),Sl W 1 (fun x cs=>cs= [.int .i64 x]) V fl→Sl W 1 (fun x cs=>cs= [.int .i64 x]) U fl→Calls Tryz.prog 44 #[V,U] W fun e w'=>e= .returned (.bool true)∧Ext W w'):=fun V U W h1 h2=>V1h V U fl W h1 h2
 clear hva hvb hwy hfl hn hd hAw
 obtain⟨⟨a0,a1,a2,a3,a4,a5,a6,a7,a8,a9,a10⟩,b0,b1,b2,b3,b4⟩:=HC.out W0 (Ext.refl _)
 go_enter Tryz.func8,Tryz.ntmps8
 go_upto_region 1 with fail
 clear hW0
 go_upto_if 17 with (go_at_call 26;(with_reducible refine(cZ.out _ HX0.out).mono ?_);clear cZ;rintro e w1 ⟨⟨z,rfl⟩,hx1⟩;have HX1:=hD hx1;clear hx1)
 clear a0 a1 a2 a3 a4 a5 a6 a7 a8 a9 a10 b0 b1 b2 b3 b4
 obtain⟨⟨a0,a1,a2,a3,a4,a5,a6,a7,a8,a9,a10⟩,b0,b1,b2,b3,b4⟩:=HC.out w1 HX1.out
 by_cases hz:600<z
 ·have q1:decide ((600:Int)<z)=true:=decide_eq_true hz
  go_wp2_with (go_at_call 37;(with_reducible refine(cA.out _).mono ?_);clear cA;rintro e w9 ⟨rfl,hx9⟩;have HX9:=hD hx9;clear hx9)
  go_ret
  exact⟨rfl,(HX0.out.trans HX1.out).trans HX9.out⟩
 ·have q1:decide ((600:Int)<z)=false:=decide_eq_false hz
  go_upto_region 4 with (go_at_call 40;(with_reducible refine(c1.out _).mono ?_);clear c1;go_loud (rintro e w2 ⟨rfl,hx2⟩;have HX2:Hid (Ext W0 w2):=HX1.out.trans hx2;clear hx2))
  clear a0 a1 a2 a3 a4 a5 a6 a7 a8 a9 a10 b0 b1 b2 b3 b4
  obtain⟨⟨a0,a1,a2,a3,a4,a5,a6,a7,a8,a9,a10⟩,b0,b1,b2,b3,b4⟩:=HC.out w2 HX2.out
  go_upto_region 5 with (go_at_call 41;(with_reducible refine(c2.out _).mono ?_);clear c2;rintro e w3 ⟨rfl,hx3⟩;have HX3:Hid (Ext W0 w3):=HX2.out.trans hx3;clear hx3)
  clear a0 a1 a2 a3 a4 a5 a6 a7 a8 a9 a10 b0 b1 b2 b3 b4
  obtain⟨_,b0,b1,b2,b3,b4⟩:=HC.out w3 HX3.out
  go_upto_region 6 with (go_at_call 42;(with_reducible refine(c3.out _ (HX0.out.trans HX3.out)).mono ?_);clear c3;rintro e w4 ⟨⟨v4,rfl,hv4⟩,hx4⟩;obtain⟨v4A,v4c,rfl⟩:=hv4.form;have HV4:Hid (Sl w4 1 (fun x cs=>cs= [.int .i64 x]) (.slice v4A fl.length v4c) fl):=hv4.sl (R:=fun x cs=>cs= [.int .i64 x]) (fun _=>rfl) (fun _=>rfl);have HX4:Hid (Ext W0 w4):=HX3.out.trans hx4;clear hx4 hv4)
  clear b0 b1 b2 b3 b4
  obtain⟨_,b0,b1,b2,b3,b4⟩:=HC.out w4 HX4.out
  go_wp2_with (first
   | (go_at_call 43;(with_reducible refine(c4.out _ (HX0.out.trans HX4.out)).mono ?_);clear c4;rintro e w5 ⟨⟨v5,rfl,hv5⟩,hx5⟩;obtain⟨v5A,v5c,rfl⟩:=hv5.form;have HV5:Hid (Sl w5 1 (fun x cs=>cs= [.int .i64 x]) (.slice v5A fl.length v5c) fl):=hv5.sl (R:=fun x cs=>cs= [.int .i64 x]) (fun _=>rfl) (fun _=>rfl);have HV6:=hD (HV4.out.ext hx5);have HX5:Hid (Ext W0 w5):=HX4.out.trans hx5;clear hx5 hv5)
   | (go_at_call 44;(with_reducible refine(c5.out _ _ _ HV6.out HV5.out).mono ?_);clear c5;rintro e w6 ⟨rfl,hx6⟩;have HX6:Hid (Ext W0 w6):=HX5.out.trans hx6;clear hx6)
   | (go_at_call 37;(with_reducible refine(cA.out _).mono ?_);clear cA;rintro e w9 ⟨rfl,hx9⟩;have HX9:Hid (Ext W0 w9):=HX6.out.trans hx9;clear hx9))
  go_ret
  exact⟨rfl,HX0.out.trans HX9.out⟩
end Go.Proofs.YtmiolpfanlpfnaaGreat
