/- The law FindRuns answers true for all operations and queries that can be read, if the chapter's examples do. Conditions: what a reading gives. -/
import Derived.Test.YtmiolpfanlpfnaaGreatQ48
import Derived.Test.YtmiolpfanlpfnaaGreatQ51
set_option maxRecDepth 100000
set_option maxHeartbeats 4000000
namespace Go.Proofs.YtmiolpfanlpfnaaGreat
set_option linter.unusedSimpArgs false
set_option linter.unusedVariables false
open Go.RowKit
theorem X1g(d:Nat)(nk:Int)(nA:Option Addr)(nm nc:Nat)(nf ns:ByteArray)(nv:Int)(ord:ByteArray)(down:Bool)(limit:Int)(count:Bool)(w:World)(hd:NOk w d ⟨nk,.slice nA nm nc,nf,ns,nv⟩):
  Calls Tryz.prog 36 #[.agg #[.int .i64 nk,.slice nA nm nc,.string nf,.string ns,.int .i64 nv,.string ord,.bool down,.int .i64 limit,.bool count]] w fun e w'=>(∃b,e= .returned (.bool b))∧Ext w w':=by
 have cZ:Hid (∀W,Ext w W→Calls Tryz.prog 26 #[.agg #[.int .i64 nk,.slice nA nm nc,.string nf,.string ns,.int .i64 nv],.int .i64 0] W fun e w'=>X2s e∧Ext W w'):=fun W hW=>Y8z d ⟨nk,.slice nA nm nc,nf,ns,nv⟩ 0 W (NOk.ext hW _ _ hd) (by decide) (by decide)
 clear hd
 go_enter Tryz.func36,Tryz.ntmps36
 go_wp2_with (go_at_call 26;(with_reducible refine(cZ.out _ ?_).mono ?_);(· exact Xt);clear cZ;rintro e w1 ⟨⟨z,rfl⟩,hx1⟩;have HX1:Hid (Ext w w1):=Ext.trans (by exact Xt) hx1;clear hx1)
 go_ret
 exact⟨⟨_,rfl⟩,HX1.out⟩
theorem Y3y(hAw:AwOk)(V:Value)(ops:List OpD)(d:Nat)(t:ND)(nk:Int)(nA:Option Addr)(nm nc:Nat)(nf ns:ByteArray)(nv:Int)(ord:ByteArray)(down:Bool)(limit:Int)(count:Bool)(w:World)
 (hs:Sl w 11 ROp V ops)(hin:∀o∈ops,In64 o.result)(hn:RN ⟨nk,.slice nA nm nc,nf,ns,nv⟩ (NCell.cells ⟨nk,.slice nA nm nc,nf,ns,nv⟩))(hd:Nd w d t ⟨nk,.slice nA nm nc,nf,ns,nv⟩)(hlim:In64 limit):
  Calls Tryz.prog 7 #[V,.agg #[.int .i64 nk,.slice nA nm nc,.string nf,.string ns,.int .i64 nv,.string ord,.bool down,.int .i64 limit,.bool count]] w fun e w'=>e= .returned (.bool true)∧Ext w w':=by
 obtain⟨A,c,rfl⟩:=hs.form
 have hx0:Ext w (w.alloc (.cells #[.int .i64 nk,.slice nA nm nc,.string nf,.string ns,.int .i64 nv,.string ord,.bool down,.int .i64 limit,.bool count] 69)):=Ext.alloc _ _
 have cFil:=Z6u _ ops _ (hs.ext hx0) hin
 have hq0:Row1 (w.alloc (.cells #[.int .i64 nk,.slice nA nm nc,.string nf,.string ns,.int .i64 nv,.string ord,.bool down,.int .i64 limit,.bool count] 69)) w.heap.size 69 [.int .i64 nk,.slice nA nm nc,.string nf,.string ns,.int .i64 nv,.string ord,.bool down,.int .i64 limit,.bool count]:=Row1.made w _ [.int .i64 nk,.slice nA nm nc,.string nf,.string ns,.int .i64 nv,.string ord,.bool down,.int .i64 limit,.bool count]
 have HX0:=hD hx0
 have HQ0:=hD hq0
 have HRN:=hD hn
 have HD:=hD hd
 have HLIM:=hD hlim
 have HAW:Hid (∀W:World,Calls Tryz.prog 37 #[] W fun e w'=>e= .returned (.bool true)∧Ext W w'):=hAw
 have hz0:(w.alloc (.cells #[.int .i64 nk,.slice nA nm nc,.string nf,.string ns,.int .i64 nv,.string ord,.bool down,.int .i64 limit,.bool count] 69)).heap.size=w.heap.size+1:=by simp
 have HZ0:=hD hz0
 clear hx0 hq0 hn hd hlim hAw hs hin hz0
 go_enter Tryz.func7,Tryz.ntmps7
 go_upto_region 2 with (go_at_call 35;(with_reducible refine cFil.mono ?_);clear cFil;rintro e w1 ⟨tb,p,ts,v,F,rfl,hf⟩;obtain⟨vA,vc,rfl⟩:=hf.own.form;have HF:=hD hf;clear hf)
 obtain⟨m,hm⟩:∃m,(filL (ops.take 24)).length=m:=⟨_,rfl⟩
 have HM:=hD hm
 rw[hm]at HF
 simp only[hm]
 clear hm
 have HQ1:Hid (Row1 w1 w.heap.size 69 [.int .i64 nk,.slice nA nm nc,.string nf,.string ns,.int .i64 nv,.string ord,.bool down,.int .i64 limit,.bool count]):=HQ0.out.ext HF.out.ext HQ0.out.lt
 have HX1:Hid (Ext w w1):=HX0.out.trans HF.out.ext
 generalize hW0:World.alloc _ _=W0 at HF HX0 HQ0 HZ0
 obtain⟨q0,q1,q2,q3,q4,q5,q6,q7,q8⟩:w1.cell? ⟨w.heap.size,0,none⟩=some (.int .i64 nk)∧w1.cell? ⟨w.heap.size,1,none⟩=some (.slice nA nm nc)∧w1.cell? ⟨w.heap.size,2,none⟩=some (.string nf)∧w1.cell? ⟨w.heap.size,3,none⟩=some (.string ns)∧w1.cell? ⟨w.heap.size,4,none⟩=some (.int .i64 nv)∧w1.cell? ⟨w.heap.size,5,none⟩=some (.string ord)∧w1.cell? ⟨w.heap.size,6,none⟩=some (.bool down)∧w1.cell? ⟨w.heap.size,7,none⟩=some (.int .i64 limit)∧w1.cell? ⟨w.heap.size,8,none⟩=some (.bool count):=⟨HQ1.out.cell 0,HQ1.out.cell 1,HQ1.out.cell 2,HQ1.out.cell 3,HQ1.out.cell 4,HQ1.out.cell 5,HQ1.out.cell 6,HQ1.out.cell 7,HQ1.out.cell 8⟩
 have cS:=X1g d nk nA nm nc nf ns nv ord down limit count w1 ((HD.out.ext HX1.out).ok)
 clear hW0
 go_upto_if 22 with (go_at_call 36;(with_reducible refine cS.mono ?_);clear cS;rintro e w2 ⟨⟨b,rfl⟩,hx2⟩;have HX2:=hD hx2;clear hx2)
 have HX3:Hid (Ext w w2):=HX1.out.trans HX2.out
 have HF2:Hid (FilR W0 tb p ts 796 (filL (ops.take 24)) 24 (.slice vA m vc) F w2):=HF.out.to HX2.out
 have HQ2:Hid (Row1 w2 w.heap.size 69 [.int .i64 nk,.slice nA nm nc,.string nf,.string ns,.int .i64 nv,.string ord,.bool down,.int .i64 limit,.bool count]):=HQ1.out.ext HX2.out HQ1.out.lt
 clear q0 q1 q2 q3 q4 q5 q6 q7 q8
 obtain⟨q0,q1,q2,q3,q4,q5,q6,q7,q8⟩:w2.cell? ⟨w.heap.size,0,none⟩=some (.int .i64 nk)∧w2.cell? ⟨w.heap.size,1,none⟩=some (.slice nA nm nc)∧w2.cell? ⟨w.heap.size,2,none⟩=some (.string nf)∧w2.cell? ⟨w.heap.size,3,none⟩=some (.string ns)∧w2.cell? ⟨w.heap.size,4,none⟩=some (.int .i64 nv)∧w2.cell? ⟨w.heap.size,5,none⟩=some (.string ord)∧w2.cell? ⟨w.heap.size,6,none⟩=some (.bool down)∧w2.cell? ⟨w.heap.size,7,none⟩=some (.int .i64 limit)∧w2.cell? ⟨w.heap.size,8,none⟩=some (.bool count):=⟨HQ2.out.cell 0,HQ2.out.cell 1,HQ2.out.cell 2,HQ2.out.cell 3,HQ2.out.cell 4,HQ2.out.cell 5,HQ2.out.cell 6,HQ2.out.cell 7,HQ2.out.cell 8⟩
 cases b with
 | false=>
   go_wp2_with (go_at_call 37;(with_reducible refine(HAW.out _).mono ?_);clear HAW;rintro e w9 ⟨rfl,hx9⟩;have HX9:=hD hx9;clear hx9)
   go_ret
   exact⟨rfl,HX3.out.trans HX9.out⟩
 | true=>
   obtain⟨S,Ts,hI,hP⟩:=HF2.out.ex
   obtain⟨ls,hls⟩:∃ls,filL (ops.take 24)=ls:=⟨_,rfl⟩
   rw[hls]at hI HM HF2
   have hlen:ls.length≤100000:=by
    have h1:=Y2b (ops.take 24) (ops.take 24).length (Nat.le_refl _)
    rw[List.take_length,hls,List.length_take]at h1
    omega
   have hB:BF (fun i=>i<w.heap.size) F w2:=fun i q=>⟨by have:=HX3.out.size;omega,fun r=>by have:=(HF2.out.new i r).1;have:=HZ0.out;omega⟩
   have cR:=Z5u (B:=fun i=>i<w.heap.size) d t nk nA nm nc nf ns nv ord down limit count w2 hI.tab (fun i hi=>hI.dep (by omega) i hi) hlen HF2.out.at_ hP (fun i q=>(HF2.out.new i q).2) HRN.out ((NdB.of d t _ HD.out).ext HX3.out) hB (fun i q=>⟨by have:=HF2.out.ntb;have:=HZ0.out;omega,fun j hj e=>by have:=HF2.out.nts j hj;have:=HZ0.out;omega⟩) HLIM.out
   have HLEN:=hD hlen
   clear hI hP hB hlen hls
   obtain⟨out,hout⟩:∃out,cutL limit (runL ord down ls t ls)=out:=⟨_,rfl⟩
   have cN:Hid (∀W,Sl W 11 ROp (.slice vA m vc) ls→Ext w W→Calls Tryz.prog 39 #[.slice vA m vc,.agg #[.int .i64 nk,.slice nA nm nc,.string nf,.string ns,.int .i64 nv,.string ord,.bool down,.int .i64 limit,.bool count]] W fun e w'=>(∃v,e= .returned (.tuple #[v,.int .i64 out.length])∧if count then v= .slice none 0 0 else Sl w' 11 ROp v out)∧Ext W w'):=fun W hW1 hW2=>by
    have h1:=X5v (.slice vA m vc) ls d t ⟨nk,.slice nA nm nc,nf,ns,nv⟩ ord down limit count W hW1 HRN.out (HD.out.ext hW2) (by have:=HLEN.out;omega) HLIM.out
    rw[hout]at h1
    exact h1
   rw[hout]at cR
   clear hout
   have cO:Hid (∀(V U:Value) (l:List OpD) (W:World),Sl W 11 ROp V l→Sl W 11 ROp U l→Calls Tryz.prog 19 #[V,U] W fun e w'=>e= .returned (.bool true)∧Ext W w'):=fun V U l W h1 h2=>V5n V U l W h1 h2
   have HSM:Hid (∀w3 v3,RunR tb p ts S F count out w2 v3 w3→Ext w w3∧Sl w3 11 ROp (.slice vA m vc) ls∧Row1 w3 w.heap.size 69 [.int .i64 nk,.slice nA nm nc,.string nf,.string ns,.int .i64 nv,.string ord,.bool down,.int .i64 limit,.bool count]):=fun w3 v3 h=>by
    obtain⟨F',r1,r2,r3,r4,r5⟩:=h.ex
    have hnq:¬F w.heap.size:=fun r=>by have:=(HF2.out.new _ r).1;have:=HZ0.out;omega
    refine⟨(r4.fresh HX3.out (fun i q=>by have:=(HF2.out.new i q).1;have:=HZ0.out;omega)).1,(HF2.out.own.only r4.only (fun b q=>HF2.out.apart b q)).sl Z2o (fun _=>rfl),r4.only.row HQ2.out hnq⟩
   cases count with
   | true=>
     go_wp2_with (first
      | (go_at_call 38;(with_reducible refine cR.mono ?_);clear cR;rintro e w3 ⟨v3,rfl,hr3⟩;obtain⟨hx3,hs3,hq3⟩:=HSM.out w3 v3 hr3;have hv3:v3= .slice none 0 0:=hr3.val;subst hv3;have HX4:=hD hx3;have HS4:=hD hs3;clear q0 q1 q2 q3 q4 q5 q6 q7 q8;obtain⟨q0,q1,q2,q3,q4,q5,q6,q7,q8⟩:w3.cell? ⟨w.heap.size,0,none⟩=some (.int .i64 nk)∧w3.cell? ⟨w.heap.size,1,none⟩=some (.slice nA nm nc)∧w3.cell? ⟨w.heap.size,2,none⟩=some (.string nf)∧w3.cell? ⟨w.heap.size,3,none⟩=some (.string ns)∧w3.cell? ⟨w.heap.size,4,none⟩=some (.int .i64 nv)∧w3.cell? ⟨w.heap.size,5,none⟩=some (.string ord)∧w3.cell? ⟨w.heap.size,6,none⟩=some (.bool down)∧w3.cell? ⟨w.heap.size,7,none⟩=some (.int .i64 limit)∧w3.cell? ⟨w.heap.size,8,none⟩=some (.bool true):=⟨hq3.cell 0,hq3.cell 1,hq3.cell 2,hq3.cell 3,hq3.cell 4,hq3.cell 5,hq3.cell 6,hq3.cell 7,hq3.cell 8⟩;clear hx3 hs3 hq3 hr3)
      | (go_at_call 39;(with_reducible refine(cN.out _ HS4.out HX4.out).mono ?_);clear cN;rintro e w4 ⟨⟨v4,rfl,hv4⟩,hx4⟩;have hv5:v4= .slice none 0 0:=hv4;subst hv5;have HX5:=hD (HX4.out.trans hx4);clear hx4 hv4)
      | (go_at_call 19;(with_reducible refine(cO.out _ _ [] _ (Sl.nil _ _ _) (Sl.nil _ _ _)).mono ?_);clear cO;rintro e w5 ⟨rfl,hx5⟩;have HX6:=hD (HX5.out.trans hx5);clear hx5)
      | (go_at_call 37;(with_reducible refine(HAW.out _).mono ?_);clear HAW;rintro e w9 ⟨rfl,hx9⟩;have HX9:=hD (HX6.out.trans hx9);clear hx9))
     go_ret
     exact⟨rfl,HX9.out⟩
   | false=>
     go_wp2_with (first
      | (go_at_call 38;(with_reducible refine cR.mono ?_);clear cR;rintro e w3 ⟨v3,rfl,hr3⟩;obtain⟨hx3,hs3,hq3⟩:=HSM.out w3 v3 hr3;have hv3:Sl w3 11 ROp v3 out:=hr3.val;obtain⟨v3A,v3c,rfl⟩:=hv3.form;have HV3:=hD hv3;have HX4:=hD hx3;have HS4:=hD hs3;clear q0 q1 q2 q3 q4 q5 q6 q7 q8;obtain⟨q0,q1,q2,q3,q4,q5,q6,q7,q8⟩:w3.cell? ⟨w.heap.size,0,none⟩=some (.int .i64 nk)∧w3.cell? ⟨w.heap.size,1,none⟩=some (.slice nA nm nc)∧w3.cell? ⟨w.heap.size,2,none⟩=some (.string nf)∧w3.cell? ⟨w.heap.size,3,none⟩=some (.string ns)∧w3.cell? ⟨w.heap.size,4,none⟩=some (.int .i64 nv)∧w3.cell? ⟨w.heap.size,5,none⟩=some (.string ord)∧w3.cell? ⟨w.heap.size,6,none⟩=some (.bool down)∧w3.cell? ⟨w.heap.size,7,none⟩=some (.int .i64 limit)∧w3.cell? ⟨w.heap.size,8,none⟩=some (.bool false):=⟨hq3.cell 0,hq3.cell 1,hq3.cell 2,hq3.cell 3,hq3.cell 4,hq3.cell 5,hq3.cell 6,hq3.cell 7,hq3.cell 8⟩;clear hx3 hs3 hq3 hr3 hv3)
      | (go_at_call 39;(with_reducible refine(cN.out _ HS4.out HX4.out).mono ?_);clear cN;rintro e w4 ⟨⟨v4,rfl,hv4⟩,hx4⟩;have hv5:Sl w4 11 ROp v4 out:=hv4;obtain⟨v4A,v4c,rfl⟩:=hv5.form;have HV4:=hD hv5;have HV5:=hD (HV3.out.ext hx4);have HX5:=hD (HX4.out.trans hx4);clear hx4 hv4 hv5)
      | (go_at_call 19;(with_reducible refine(cO.out _ _ out _ HV5.out HV4.out).mono ?_);clear cO;rintro e w5 ⟨rfl,hx5⟩;have HX6:=hD (HX5.out.trans hx5);clear hx5)
      | (go_at_call 37;(with_reducible refine(HAW.out _).mono ?_);clear HAW;rintro e w9 ⟨rfl,hx9⟩;have HX9:=hD (HX6.out.trans hx9);clear hx9))
     go_ret
     exact⟨rfl,HX9.out⟩
end Go.Proofs.YtmiolpfanlpfnaaGreat
