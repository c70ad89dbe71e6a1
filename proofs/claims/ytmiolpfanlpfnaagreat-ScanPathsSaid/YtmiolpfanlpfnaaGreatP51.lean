/- The law ScanPaths answers true for all operations and conditions that can be read. Conditions: what a reading gives. -/
import Derived.Test.YtmiolpfanlpfnaaGreatP48
import Derived.Test.YtmiolpfanlpfnaaGreatP43
import Derived.Test.YtmiolpfanlpfnaaGreatP50
set_option maxRecDepth 100000
set_option maxHeartbeats 4000000
set_option linter.unusedSimpArgs false
set_option linter.unusedVariables false
namespace Go.Proofs.YtmiolpfanlpfnaaGreat
open Go.RowKit
theorem wf64{x:Int}(h:In64 x):(Lit.int .i64 x).wf=true:=by
 have e1:IntKind.i64.min= -9223372036854775808:=by decide
 have e2:IntKind.i64.max=9223372036854775807:=by decide
 simp only[Lit.wf,e1,e2,Bool.and_eq_true,decide_eq_true_eq]
 exact h
theorem Y1r(V:Value)(ops:List OpD)(d:Nat)(t:ND)(nk:Int)(nA:Option Addr)(nm nc:Nat)(nf ns:ByteArray)(nv:Int)(w:World)
 (hs:Sl w 11 ROp V ops)(hin:∀o∈ops,In64 o.result)(hn:RN ⟨nk,.slice nA nm nc,nf,ns,nv⟩ (NCell.cells ⟨nk,.slice nA nm nc,nf,ns,nv⟩))(hd:Nd w d t ⟨nk,.slice nA nm nc,nf,ns,nv⟩):
  Calls Tryz.prog 6 #[V,.agg #[.int .i64 nk,.slice nA nm nc,.string nf,.string ns,.int .i64 nv]] w fun e w'=>e= .returned (.bool true)∧Ext w w':=by
 obtain⟨A,c,rfl⟩:=hs.form
 have cFil:=X0r _ ops (w.alloc (.cells #[.int .i64 nk,.slice nA nm nc,.string nf,.string ns,.int .i64 nv] 50)) (hs.ext (Ext.alloc _ _)) hin
 have cA:Hid (∀W:World,Calls Tryz.prog 27 #[] W fun e w'=>e= .returned (.bool true)∧Ext W w'):=fun W=>V3s W
 have cZ:Hid (∀W,Ext w W→Calls Tryz.prog 26 #[.agg #[.int .i64 nk,.slice nA nm nc,.string nf,.string ns,.int .i64 nv],.int .i64 0] W fun e w'=>V3z e∧Ext W w'):=fun W hW=>X9u d ⟨nk,.slice nA nm nc,nf,ns,nv⟩ 0 W (NOk.ext hW _ _ hd.ok) (by decide) (by decide)
 have HRN:=hD hn
 have HD:=hD hd
 clear hs hin hn hd
 go_enter Tryz.func6,Tryz.ntmps6
 go_upto_region 2 with (go_at_call 25;(with_reducible refine cFil.mono ?_);clear cFil;rintro e w1 ⟨tb,p,ts,v,F,rfl,hf⟩;obtain⟨vA,vc,rfl⟩:=hf.own.form;have HF:=hD hf;clear hf)
 obtain⟨ls,hls⟩:∃ls,filL (ops.take 24)=ls:=⟨_,rfl⟩
 have hlen:ls.length≤24:=by
  have h1:=Y8g (ops.take 24) (ops.take 24).length (Nat.le_refl _)
  rw[List.take_length,hls,List.length_take]at h1
  omega
 rw[hls]at HF
 simp only[hls]
 have HLEN:=hD hlen
 clear hls hlen
 have HXW:Hid (Ext w w1):=(Ext.alloc w (.cells #[.int .i64 nk,.slice nA nm nc,.string nf,.string ns,.int .i64 nv] 50)).trans HF.out.ext
 have HNB:Hid (Row1 w1 w.heap.size 50 [.int .i64 nk,.slice nA nm nc,.string nf,.string ns,.int .i64 nv]):=(Row1.made w _ [.int .i64 nk,.slice nA nm nc,.string nf,.string ns,.int .i64 nv]).ext HF.out.ext (by simp)
 have HSZ:Hid (∀i,F i→w.heap.size+1≤i):=fun i q=>by have:=(HF.out.new i q).1;simp at this;omega
 have HTB:Hid (w.heap.size+1≤tb∧∀j,j<5→w.heap.size+1≤ts j):=⟨by have:=HF.out.ntb;simp at this;omega,fun j hj=>by have:=HF.out.nts j hj;simp at this;omega⟩
 obtain⟨z0,z1,z2,z3,z4⟩:=c5 HNB.out
 go_upto_if 24 with (go_at_call 26;(with_reducible refine(cZ.out _ HXW.out).mono ?_);clear cZ;rintro e w2 ⟨⟨z,rfl⟩,hx2⟩;have HX2:=hD hx2;clear hx2)
 by_cases hz:600<z
 ·have q1:decide ((600:Int)<z)=true:=decide_eq_true hz
  go_wp2_with (go_at_call 27;(with_reducible refine(cA.out _).mono ?_);clear cA;rintro e w9 ⟨rfl,hx9⟩;have HX9:=hD hx9;clear hx9)
  go_ret
  exact⟨rfl,(HXW.out.trans HX2.out).trans HX9.out⟩
 ·have q1:decide ((600:Int)<z)=false:=decide_eq_false hz
  clear z0 z1 z2 z3 z4
  have HN2:Hid (Row1 w2 w.heap.size 50 [.int .i64 nk,.slice nA nm nc,.string nf,.string ns,.int .i64 nv]):=HNB.out.ext HX2.out HNB.out.lt
  obtain⟨z0,z1,z2,z3,z4⟩:=c5 HN2.out
  have HF2:=hD (HF.out.to HX2.out)
  have HXW2:=hD (HXW.out.trans HX2.out)
  obtain⟨S,Ts,hI,hP⟩:=HF2.out.ex
  have HI:=hD hI
  have HP:=hD hP
  have hok:∀o∈ls,Z2u o=0:=fun o ho=>hI.tab.ok 0 (by omega) o ho
  have hid:=hI.tab.ids 0 (by omega)
  obtain⟨d',rfl⟩:∃d',d=d'+1:=by
   cases d with
   | zero=>exact HD.out.elim
   | succ d'=>exact⟨d',rfl⟩
  obtain⟨hk1,hk2,hk3,hk4,ks,hks,hkl,hkn⟩:=HD.out
  obtain⟨parts,hparts⟩:∃parts,Z8x ⟨nk,.slice nA nm nc,nf,ns,nv⟩ ks=parts:=⟨_,rfl⟩
  have hpi:∀y∈parts,Z0v y.value:=fun y hy=>by
   rw[←hparts]at hy
   unfold Z8x at hy
   split at hy
   ·obtain⟨cs,hcs⟩:=hks.all y hy
    exact⟨hcs.2.1,hcs.2.2.1⟩
   ·rw[List.mem_singleton.1 hy];exact⟨HRN.out.2.1,HRN.out.2.2.1⟩
  have hcmp:∀o,Z1o ls o t=true→Y8s parts o:=fun o h=>by rw[←hparts];exact U1i ⟨hk1,hk2,hk3,hk4⟩ hkl hkn h
  have cB:Hid (∀W,Ext w W→Calls Tryz.prog 29 #[.agg #[.int .i64 nk,.slice nA nm nc,.string nf,.string ns,.int .i64 nv]] W fun e w'=>(∃v,e= .returned v∧Sl w' 3 RBnd v (Z1e parts))∧Ext W w'):=fun W hW=>by
   rw[←hparts];exact Z7w ⟨nk,.slice nA nm nc,nf,ns,nv⟩ ks W HRN.out (hks.ext hW)
  have hsl:∀W,Ext w2 W→Sl W 11 ROp (.slice vA ls.length vc) ls:=fun W hW=>((HF2.out.own.sl (R:=ROp) Z2x (fun _=>rfl))).ext hW
  have HSL:=hD hsl
  have cM:Hid (∀W,Ext w2 W→Calls Tryz.prog 30 #[.slice vA ls.length vc] W fun e w'=>(∃OV PV MV,e= .returned (.agg #[.int .i64 ls.length,OV,PV,MV])∧Sl w' 2 RG OV (Z0s (ls.map OpD.object))∧Sl w' 2 RG PV (Z0s (ls.map OpD.proc))∧Sl w' 2 RG MV (Z0s (ls.map OpD.method)))∧Ext W w'):=fun W hW=>
   X2a _ ls W (HSL.out W hW) (by have:=HLEN.out;omega) (fun o ho=>by
    have hi:=(OpIn.of (hok o ho)).way
    exact⟨wf64 (hi 1 _ (by simp[wayL])),wf64 (hi 3 _ (by simp[wayL])),wf64 (hi 4 _ (by simp[wayL]))⟩)
  have hgood:=X2q hok hid hpi
  have hglen:∀f:OpD→Int,(Z0s (ls.map f)).length≤1000000000:=fun f=>by
   have h1:=X2i (ls.map f) (ls.map f).length (Nat.le_refl _)
   rw[List.take_length,List.length_map]at h1
   have:=HLEN.out
   omega
  have cC:Hid (∀(V OV PV MV:Value) (W:World),Sl W 3 RBnd V (Z1e parts)→Sl W 2 RG OV (Z0s (ls.map OpD.object))→Sl W 2 RG PV (Z0s (ls.map OpD.proc))→Sl W 2 RG MV (Z0s (ls.map OpD.method))→Calls Tryz.prog 28 #[V,.agg #[.int .i64 ls.length,OV,PV,MV]] W _):=fun V OV PV MV W h1 h2 h3 h4=>
   Z7v V OV PV MV (Z1e parts) ls.length _ _ _ W h1 h2 h3 h4 (Z5x _).rising (Z5x _).rising (Z5x _).rising (hglen _) (hglen _) (hglen _)
  generalize Z1q (Z1e parts) ls.length (Z0s (ls.map OpD.object)) (Z0s (ls.map OpD.proc)) (Z0s (ls.map OpD.method))=P at cC hgood
  obtain⟨pw,pf,lo,hi,cost⟩:=P
  obtain⟨wN,hwN,hpw,hpf,hpfi,hloi,hhii,hon,hcost⟩:=hgood.ex
  dsimp only at hpw hpf hpfi hloi hhii hon hcost cC
  subst hpw
  have HON:=hD hon
  have HCO:=hD hcost
  have HCMP:=hD hcmp
  have HKS:=hD hks
  have HPFI:Hid (pf.length≤1∧(∀x∈pf,Z0v x)∧Z0v lo∧Z0v hi):=⟨hpf,hpfi,hloi,hhii⟩
  clear hgood hon hcost hcmp hks hkl hkn hk1 hk2 hk3 hk4 hpi hok hid hI hP hsl hglen hpf hpfi hloi hhii hparts
  go_upto_region 5 with (first
   | (go_at_call 29;(with_reducible refine(cB.out _ HXW2.out).mono ?_);clear cB;rintro e w3 ⟨⟨v3,rfl,hs3⟩,hx3⟩;obtain⟨bA,bc,rfl⟩:=hs3.form;have HS3:=hD hs3;have HX3:=hD hx3;clear hs3 hx3)
   | (go_at_call 30;(with_reducible refine(cM.out _ HX3.out).mono ?_);clear cM;rintro e w4 ⟨⟨OV,PV,MV,rfl,ho4,hp4,hm4⟩,hx4⟩;obtain⟨oA,oc,rfl⟩:=ho4.form;obtain⟨pA,pc,rfl⟩:=hp4.form;obtain⟨mA,mc,rfl⟩:=hm4.form;have HS4:=hD (HS3.out.ext hx4);have HG4:=hD (And.intro ho4 (And.intro hp4 hm4));have HX4:=hD (HX3.out.trans hx4);clear ho4 hp4 hm4 hx4)
   | (go_at_call 28;(with_reducible refine(cC.out _ _ _ _ _ HS4.out HG4.out.1 HG4.out.2.1 HG4.out.2.2).mono ?_);clear cC;rintro e w5 ⟨⟨fv,rfl,hfs,hfo⟩,hx5⟩;obtain⟨fA,fc,rfl⟩:=hfs.form;have HFS:=hD hfs;have HFO:Hid (∀g',(Value.slice fA pf.length fc).ownBlock=some g'→w4.heap.size≤g'):=fun g' e=>by obtain⟨_,_,q⟩:=hfo g' e;exact q
      have HX5:=hD (HX4.out.trans hx5);have HZ45:Hid (w2.heap.size≤w4.heap.size∧w4.heap.size≤w5.heap.size):=⟨HX4.out.size,hx5.size⟩;clear hfs hfo hx5))
  clear z0 z1 z2 z3 z4
  go_upto_region 6 with fail
  generalize hW6:World.alloc _ _=w6
  have HX56:Hid (Ext w5 w6):=by unfold Hid;rw[←hW6];exact(Ext.alloc _ _).trans (Ext.alloc _ _)
  have HBP:Hid (Row1 w6 w5.heap.size 55 [.int .i64 (wN:Nat),.slice fA pf.length fc,.int .i64 lo,.int .i64 hi,.int .i64 cost]):=by unfold Hid;rw[←hW6];exact(Row1.made w5 _ [.int .i64 (wN:Nat),.slice fA pf.length fc,.int .i64 lo,.int .i64 hi,.int .i64 cost]).alloc _
  have HBL:Hid (Row1 w6 (w5.heap.size+1) 30 [.slice none 0 0]):=by unfold Hid;rw[←hW6];exact Row1.made' (by simp) _ [.slice none 0 0]
  clear hW6
  have HX6:=hD (HX5.out.trans HX56.out)
  have HZ6:Hid (w5.heap.size+1<w6.heap.size):=HBL.out.lt
  obtain⟨z0,z1,z2,z3,z4⟩:=c5 HBP.out
  have cSt:Hid (∀W,Calls Tryz.prog 31 #[.pointer (some ⟨tb,0,none⟩),.agg #[.int .i64 (wN:Nat),.slice fA pf.length fc,.int .i64 lo,.int .i64 hi,.int .i64 cost]] W (X1b fA pf.length fc (some ⟨tb,0,none⟩) (wN:Nat) lo hi W)):=fun W=>X9f _ _ _ _ _ W
  have hnf:=fun(W:World) (ya yb:Array Value)=>X9l 67 ya yb W
  go_upto_region 7 with (go_at_call 31;(with_reducible refine(cSt.out _).mono ?_);clear cSt;rintro e w7 ⟨bf,ba,bt,bw,bo,rfl,hx7,hb7,hr1,hr2,hr3,hr4,hr5⟩;have HX7:=hD hx7;have HB7:=hD hb7;have HR7:=hD (And.intro hr1 (And.intro hr2 (And.intro hr3 (And.intro hr4 hr5))));clear hx7 hb7 hr1 hr2 hr3 hr4 hr5)
  clear z0 z1 z2 z3 z4
  have HX27:=hD (HX6.out.trans HX7.out)
  have HFL:Hid (∀i,F i→i<w2.heap.size):=fun i q=>(HF2.out.new i q).2
  have HTS:Hid (tb<w2.heap.size∧∀j,j<5→ts j<w2.heap.size):=⟨HF2.out.at_.row.lt,fun j hj=>(HF2.out.at_.tree j hj).lt⟩
  obtain⟨all,k,hRg⟩:=HI.out.tab.ranges hwN pf lo hi
  have hfsI:∀x∈pf++ [lo],Z0v x:=fun x hx=>by
   rcases List.mem_append.1 hx with q | q
   ·exact HPFI.out.2.1 x q
   ·rw[List.mem_singleton.1 q];exact HPFI.out.2.2.1
  have hsame:=hRg.same HI.out.tab hwN (by have:=HPFI.out.1;omega) HPFI.out.2.1 HPFI.out.2.2.1
  have hmemI:=fun o=>hRg.mem_iff HI.out.tab hwN HPFI.out.2.1 HPFI.out.2.2.1 o
  have hall:all.length≤24:=by
   have h1:=Y2k all ls (hRg.nodup HI.out.tab hwN) hRg.mem
   have:=HLEN.out
   omega
  have hcnt:(((Z3x (wN:Nat) pf lo hi ls).length:Nat):Int)≤cost:=by
   rw[←hsame]
   exact HCO.out _ ((hRg.nodup HI.out.tab hwN).sublist (List.take_sublist _ _)) (fun o ho=>(hmemI o).1 ho)
  have hcov:∀o∈ls,Z1o ls o t=true→(getL (Z3x (wN:Nat) pf lo hi ls) o.id).isSome=true:=fun o ho h=>by
   have hm:o∈Z3x (wN:Nat) pf lo hi ls:=by rw[←hsame];exact(hmemI o).2 ⟨ho,HON.out o ho (HCMP.out o h)⟩
   unfold getL
   rw[List.find?_isSome]
   exact⟨o,hm,by simp⟩
  obtain⟨got,hgot⟩:∃got,Z3x (wN:Nat) pf lo hi ls=got:=⟨_,rfl⟩
  rw[hgot]at hsame hcnt hcov
  have HGT:Hid (Z3x (wN:Nat) pf lo hi ls=got):=hgot
  have HCV:=hD hcov
  have HCN:=hD hcnt
  have HGL:Hid (got.length≤24):=by unfold Hid;rw[←hsame,List.length_take];omega
  have cRg:=X6n (A:=fA) (n:=pf.length) (c:=fc) (bt:=bt) (bw:=bw) (bf:=bf) (ba:=ba) (bo:=bo) (bl:=w5.heap.size+1) (g:=32) (tb:=tb) (p:=p) (ts:=ts) (F:=F) (Gc:=fun i=>i=w5.heap.size+1) (S:=S) (Ts:=Ts) (l:=ls) (all:=all) (k:=k) (J:=PJ (w5.heap.size+1)) (Jx:=PX (w5.heap.size+1)) wN pf lo hi w7
   (HF2.out.at_.ext HX27.out) (HP.out.ext HX27.out) HI.out.tab (fun i hi=>HI.out.dep (by omega) i hi) hwN HR7.out.1 HR7.out.2.1 HR7.out.2.2.1 HR7.out.2.2.2.1 HR7.out.2.2.2.2
   (fun q=>by have:=HFL.out _ q;have:=HB7.out.1;have:=HX6.out.size;omega) (fun q=>by have:=HFL.out _ q;have:=HB7.out.2.2.2.2;have:=HX6.out.size;omega)
   ((HFS.out.mono (fun x cs h=>h)).ext (HX56.out.trans HX7.out)) HPFI.out.2.1 HPFI.out.2.2.1 (by have:=HPFI.out.1;omega)
   (fun hlt=>by
     rcases Nat.eq_zero_or_pos k with e | e
     ·exact e
     ·exfalso
      have hk:=hRg.le
      have hm:all[0]'(by omega)∈all.take k:=List.mem_iff_getElem.2 ⟨0,by rw[List.length_take];omega,List.getElem_take⟩
      obtain⟨_,_,x,_,q1,q2⟩:=(hmemI _).1 hm
      omega)
   hRg (by omega) (enters_of Tryz.func32 (by kernel_rfl) rfl) PJ.abides PX.abides
   ⟨⟨none,0,OwnL.nil _ _ _ _ _,HBL.out.ext HX7.out HBL.out.lt,fun k q=>by cases q⟩,rfl⟩
   (fun i q=>by
     subst q
     have h1:=HTS.out;have h2:=HX6.out.size;have h3:=HZ6.out;have h4:=HX7.out.size;have h5:=HB7.out;have h6:=HX5.out.size
     exact⟨by omega,fun r=>by have:=HFL.out _ r;omega,by omega,by omega,by omega,fun j hj e=>by have:=h1.2 j hj;omega⟩)
   (fun pre x W G h hp=>V0i x W h hp)
  have HALL:Hid (all.take k=got∧all.length≤24):=⟨hsame,hall⟩
  clear hRg hsame hmemI hall hcnt hcov hgot hfsI
  go_upto_region 10 with (go_at_call 67;(with_reducible refine cRg.mono ?_);clear cRg;rintro e w8 ⟨⟨v8,rfl⟩,F2,G2,j,hjk,hja,hjj,ht8,hp8,hk8⟩;have HJJ:=hD hjj;have HJA:=hD hja;have HK8:=hD hk8;clear hjj hjk hja ht8 hp8 hk8)
  have HPJ:Hid (PJ (w5.heap.size+1) got G2 w8):=by
   rcases HJJ.out with ⟨rfl,h⟩ | ⟨_,h⟩
   ·rw[HALL.out.1]at h;exact h
   ·exfalso
    rw[List.length_take]at h
    have:=HALL.out.2
    omega
  clear HJJ HJA
  obtain⟨gA,gc,hgo,hgr,_⟩:=HPJ.out.list
  have HGO:=hD (hgo.sl (R:=ROp) Z2x (fun _=>rfl))
  have HGR:=hD hgr
  clear hgo hgr
  have HUN:Hid (∀i,Un F (fun i=>i=w5.heap.size+1) i→w.heap.size+1≤i∧(i<w2.heap.size∨i=w5.heap.size+1)):=fun i q=>by
   have h1:=HXW2.out.size;have h2:=HX5.out.size
   rcases q with q | q
   ·exact⟨HSZ.out i q,.inl (HFL.out i q)⟩
   ·exact⟨by omega,.inr q⟩
  have HN8:Hid (Row1 w8 w.heap.size 50 [.int .i64 nk,.slice nA nm nc,.string nf,.string ns,.int .i64 nv]):=HK8.out.only.row (HN2.out.ext HX27.out HN2.out.lt) (fun r=>by have:=(HUN.out _ r).1;omega)
  have HP8:Hid (Row1 w8 w5.heap.size 55 [.int .i64 (wN:Nat),.slice fA pf.length fc,.int .i64 lo,.int .i64 hi,.int .i64 cost]):=HK8.out.only.row (HBP.out.ext HX7.out HBP.out.lt) (fun r=>by have:=(HUN.out _ r).2;have:=HX5.out.size;omega)
  have HS8:Hid (Sl w8 11 ROp (.slice vA ls.length vc) ls):=(((HF2.out.own.ext HX27.out).only HK8.out.only (fun b q r=>by
   rcases r with r | r
   ·exact HF2.out.apart b q r
   ·have:=(HF2.out.own.lt b q).2;have:=HX5.out.size;omega))).sl Z2x (fun _=>rfl)
  have HF8:Hid (Sl w8 1 RIn (.slice fA pf.length fc) pf):=Sl.only ((HFS.out.mono (fun x cs h=>h)).ext (HX56.out.trans HX7.out)) HK8.out.only (fun b hl q r=>by
   have h1:=HFO.out b q
   have h2:=HZ45.out
   obtain⟨b',off,e,hb',_⟩:=HFS.out.at.2.2.2 hl
   rw[e]at q
   have e2:b'=b:=Option.some.inj q
   rcases(HUN.out _ r).2 with r | r<;>omega)
  have HD8:Hid (Nd w8 (d'+1) t ⟨nk,.slice nA nm nc,nf,ns,nv⟩):=NdB.nd _ _ _ (NdB.only HK8.out.only (fun i q r=>by have:=(HUN.out _ r).1;omega) _ _ _ (((NdB.of (d'+1) t _ HD.out).ext HXW2.out).ext HX27.out))
  have HX8:Hid (Ext w w8):=(Only.trans (F:=fun i=>w.heap.size≤i) (Only.of (HXW2.out.trans HX27.out)) HK8.out.only (fun i q=> .inl (by have:=(HUN.out i q).1;omega))).toExt (fun i q=>q)
  have HC8:Hid (∀W,Ext w8 W→W.cell? ⟨w5.heap.size+1,0,none⟩=some (.slice gA got.length gc)∧W.cell? ⟨w5.heap.size,0,none⟩=some (.int .i64 (wN:Nat))∧W.cell? ⟨w5.heap.size,1,none⟩=some (.slice fA pf.length fc)∧W.cell? ⟨w5.heap.size,2,none⟩=some (.int .i64 lo)∧W.cell? ⟨w5.heap.size,3,none⟩=some (.int .i64 hi)∧W.cell? ⟨w5.heap.size,4,none⟩=some (.int .i64 cost)):=fun W h=>by
   have r:=HP8.out.ext h HP8.out.lt
   exact⟨(HGR.out.ext h HGR.out.lt).cell 0,r.cell 0,r.cell 1,r.cell 2,r.cell 3,r.cell 4⟩
  have cR13:Hid (∀W,Ext w8 W→Calls Tryz.prog 21 #[.slice vA ls.length vc,.int .i64 (wN:Nat),.slice fA pf.length fc,.int .i64 lo,.int .i64 hi] W fun e w'=>(∃v,e= .returned v∧OwnL w' W.heap.size 32 11 OpD.cells v got)∧Ext W w'):=fun W h=>by
   have h1:=Y5a _ _ ls (wN:Nat) pf lo hi W (HS8.out.ext h) (HF8.out.ext h) (by have:=HLEN.out;omega)
   rw[HGT.out]at h1
   exact h1
  have cO:Hid (∀(U:Value) W,Ext w8 W→Sl W 11 ROp U got→Calls Tryz.prog 19 #[.slice gA got.length gc,U] W fun e w'=>e= .returned (.bool true)∧Ext W w'):=fun U W h h2=>V5t _ U got W (HGO.out.ext h) h2
  have hcs:decide (cost<(got.length:Int))=false:=decide_eq_false (by have:=HCN.out;omega)
  have hcs2:¬cost<(got.length:Int):=by have:=HCN.out;omega
  refine wp_region_held_drew (S:=fun W=>W.cell? ⟨w5.heap.size+1,0,none⟩=some (.slice gA got.length gc)∧W.cell? ⟨w5.heap.size,0,none⟩=some (.int .i64 (wN:Nat))∧W.cell? ⟨w5.heap.size,1,none⟩=some (.slice fA pf.length fc)∧W.cell? ⟨w5.heap.size,2,none⟩=some (.int .i64 lo)∧W.cell? ⟨w5.heap.size,3,none⟩=some (.int .i64 hi)∧W.cell? ⟨w5.heap.size,4,none⟩=some (.int .i64 cost)) (by kernel_rfl) (HC8.out _ (by exact Xt)) (fun hHeld=> ?_)
  refine' tk 0 ?_
  refine' tk 1 ?_
  refine' tk 2 ?_
  refine' tk 3 ?_
  refine' tk 4 ?_
  refine' tk 5 ?_
  refine' tk 6 ?_
  refine' tk 7 ?_
  refine' tk 8 ?_
  refine' tk 9 ?_
  refine stp 10 (fun K hK=> ?_);go_simp
  (with_reducible refine(cR13.out _ ?_).mono ?_)
  ·exact Xt
  rintro e w9 ⟨⟨v9,rfl,hv9⟩,hx9⟩
  obtain⟨rA,rc,rfl⟩:=hv9.form
  have HV9:Hid (Sl w9 11 ROp (.slice rA got.length rc) got):=hv9.sl (R:=ROp) Z2x (fun _=>rfl)
  have HX9:Hid (Ext w8 w9):=Ext.trans (by exact Xt) hx9
  clear hv9 hx9
  (try dsimp only)
  (try go_simp)
  refine hK.out _ _ (HC8.out _ HX9.out) (fun hHeld=> ?_)
  clear hK K
  refine pt ?_
  refine stp 11 (fun K hK=> ?_);go_simp
  (with_reducible refine(cO.out _ _ ?_ ?_).mono ?_)
  ·exact Xx (HX9.out)
  ·exact HV9.out.ext (by exact Xt)
  rintro e wa ⟨rfl,hxa⟩
  have HXA:Hid (Ext w8 wa):=Ext.trans (by exact Xx (HX9.out)) hxa
  clear hxa
  (try dsimp only)
  (try go_simp)
  refine hK.out _ _ (HC8.out _ HXA.out) (fun hHeld=> ?_)
  clear hK K
  refine pt ?_
  refine' tk 12 ?_
  refine' tk 13 ?_
  refine' tk 14 ?_
  refine' tk 15 ?_
  refine' tk 16 ?_
  refine' tk 17 ?_
  refine' tk 18 ?_
  refine' tk 19 ?_
  refine wpAnyH_done (by kernel_rfl) ?_ _
  go_wp2_with fail
  clear hcs hcs2
  obtain⟨hA0,hA1,hA2,hA⟩:=HS8.out.at
  clear hA0
  have HA:=hD hA
  clear hA
  have hl:ls.length≤24:=HLEN.out
  go_loopw [10] (fun i wr=>∃m:Nat,m≤ls.length∧i= .int .i64 m∧Ext w8 wr) (fun i _=>ls.length-(intOf i).toNat)
  case atStart=>exact⟨0,by omega,rfl,by exact Xx (HXA.out)⟩
  case round=>
   obtain⟨m,hm,rfl,hb⟩:=hrel
   have KB:=hD hb
   clear hb
   by_cases hlt:m<ls.length
   ·have hd:decide ((m:Int)<(ls.length:Int))=true:=by simp;omega
    obtain⟨b,off,rfl,hbl,hx⟩:=HA.out (by omega)
    obtain⟨cs,rfl,_,hcs⟩:=hx m hlt
    have HE:Hid (∀W:World,Ext w8 W→(W.cell? ⟨b,off+m*11,none⟩=some (.int .i64 ls[m].id)∧W.cell? ⟨b,off+m*11+1,none⟩=some (.int .i64 ls[m].proc)∧W.cell? ⟨b,off+m*11+2,none⟩=some (.int .i64 ls[m].object)∧W.cell? ⟨b,off+m*11+3,none⟩=some (.int .i64 ls[m].kind)∧W.cell? ⟨b,off+m*11+4,none⟩=some (.int .i64 ls[m].method)∧W.cell? ⟨b,off+m*11+5,none⟩=some (.int .i64 ls[m].arg)∧W.cell? ⟨b,off+m*11+6,none⟩=some (.int .i64 ls[m].second)∧W.cell? ⟨b,off+m*11+7,none⟩=some (.bool ls[m].done)∧W.cell? ⟨b,off+m*11+8,none⟩=some (.int .i64 ls[m].result)∧W.cell? ⟨b,off+m*11+9,none⟩=some (.int .i64 ls[m].invoke)∧W.cell? ⟨b,off+m*11+10,none⟩=some (.int .i64 ls[m].ret))):=by
     intro W h
     have hw:=fun j u hu=>(h.cell (p:=⟨b,off+m*11+j,none⟩) hbl).trans (hcs j u hu)
     exact⟨hw 0 _ rfl,hw 1 _ rfl,hw 2 _ rfl,hw 3 _ rfl,hw 4 _ rfl,hw 5 _ rfl,hw 6 _ rfl,hw 7 _ rfl,hw 8 _ rfl,hw 9 _ rfl,hw 10 _ rfl⟩
    have HI1:=hD (HCV.out _ (List.getElem_mem hlt))
    clear hx hcs
    generalize ls[m]=x at *
    obtain⟨ib,hib⟩:∃ib,(getL got x.id).isSome=ib:=⟨_,rfl⟩
    obtain⟨x1,hx1⟩:∃x1,(getL got x.id).getD opZero=x1:=⟨_,rfl⟩
    obtain⟨tt,htt⟩:∃tt,Z1o ls x t=tt:=⟨_,rfl⟩
    have HIM:Hid (tt=true→ib=true):=by unfold Hid;rw[←htt,←hib];exact HI1.out
    have cG:Hid (∀W,Ext w8 W→Calls Tryz.prog 33 #[.slice gA got.length gc,.int .i64 x.id] W fun e w'=>e= .returned (.tuple #[.agg #[.int .i64 x1.id,.int .i64 x1.proc,.int .i64 x1.object,.int .i64 x1.kind,.int .i64 x1.method,.int .i64 x1.arg,.int .i64 x1.second,.bool x1.done,.int .i64 x1.result,.int .i64 x1.invoke,.int .i64 x1.ret],.bool ib])∧Ext W w'):=fun W h=>by
     have h1:=Y0d _ got x.id W (HGO.out.ext h)
     rw[hx1,hib]at h1
     exact h1
    have cT:Hid (∀W,Ext w8 W→Calls Tryz.prog 34 #[.slice (some ⟨b,off,none⟩) ls.length vc,.agg #[.int .i64 nk,.slice nA nm nc,.string nf,.string ns,.int .i64 nv],.agg #[.int .i64 x.id,.int .i64 x.proc,.int .i64 x.object,.int .i64 x.kind,.int .i64 x.method,.int .i64 x.arg,.int .i64 x.second,.bool x.done,.int .i64 x.result,.int .i64 x.invoke,.int .i64 x.ret]] W fun e w'=>e= .returned (.bool tt)∧Ext W w'):=fun W h=>by
     have h1:=X1o (some ⟨b,off,none⟩) vc ls x (d'+1) t ⟨nk,.slice nA nm nc,nf,ns,nv⟩ W HRN.out (Nd.ext h _ _ _ HD8.out) (HS8.out.ext h)
     rw[htt]at h1
     exact h1
    have HC15:Hid (∀W,Ext wr W→W.cell? ⟨w5.heap.size+1,0,none⟩=some (.slice gA got.length gc)∧W.cell? ⟨b,off+m*11,none⟩=some (.int .i64 x.id)):=fun W h=>⟨(HC8.out _ (KB.out.trans h)).1,(HE.out _ (KB.out.trans h)).1⟩
    have HC16:Hid (∀W,Ext w8 W→(W.cell? ⟨w.heap.size,0,none⟩=some (.int .i64 nk)∧W.cell? ⟨w.heap.size,1,none⟩=some (.slice nA nm nc)∧W.cell? ⟨w.heap.size,2,none⟩=some (.string nf)∧W.cell? ⟨w.heap.size,3,none⟩=some (.string ns)∧W.cell? ⟨w.heap.size,4,none⟩=some (.int .i64 nv))∧W.cell? ⟨b,off+m*11,none⟩=some (.int .i64 x.id)∧W.cell? ⟨b,off+m*11+1,none⟩=some (.int .i64 x.proc)∧W.cell? ⟨b,off+m*11+2,none⟩=some (.int .i64 x.object)∧W.cell? ⟨b,off+m*11+3,none⟩=some (.int .i64 x.kind)∧W.cell? ⟨b,off+m*11+4,none⟩=some (.int .i64 x.method)∧W.cell? ⟨b,off+m*11+5,none⟩=some (.int .i64 x.arg)∧W.cell? ⟨b,off+m*11+6,none⟩=some (.int .i64 x.second)∧W.cell? ⟨b,off+m*11+7,none⟩=some (.bool x.done)∧W.cell? ⟨b,off+m*11+8,none⟩=some (.int .i64 x.result)∧W.cell? ⟨b,off+m*11+9,none⟩=some (.int .i64 x.invoke)∧W.cell? ⟨b,off+m*11+10,none⟩=some (.int .i64 x.ret)):=fun W h=>⟨c5 (HN8.out.ext h HN8.out.lt),HE.out _ h⟩
    clear hib hx1 htt HI1
    go_upto_region 15 with fail
    go_cut [11,12] (fun _ s wx=>s= .bool ib∧Ext w8 wx)
    case first=>
     refine wp_region_held_drew (S:=fun W=>W.cell? ⟨w5.heap.size+1,0,none⟩=some (.slice gA got.length gc)∧W.cell? ⟨b,off+m*11,none⟩=some (.int .i64 x.id)) (by kernel_rfl) (HC15.out _ (by exact Xt)) (fun hHeld=> ?_)
     refine' tk 0 ?_
     refine' tk 1 ?_
     refine' tk 2 ?_
     refine' tk 3 ?_
     refine' tk 4 ?_
     refine' tk 5 ?_
     refine wpAnyH_ready (rs:= [6,10]) (by kernel_rfl) (by simp) ?_;refine AllReadyH.cons rfl (fun K hK=> ?_) (AllReadyH.cons rfl (fun K hK=> ?_) (AllReadyH.nil))
     ·go_simp
      (with_reducible refine(cG.out _ (KB.out.trans ?_)).mono ?_)
      ·exact Xt
      rintro e w7' ⟨rfl,hb7⟩
      have HB7':Hid (Ext wr w7'):=Ext.trans (by exact Xt) hb7
      clear hb7
      (try dsimp only)
      (try go_simp)
      refine hK.out _ _ (HC15.out _ HB7'.out) (fun hHeld=> ?_)
      clear hK K
      refine pt ?_
      refine' tk 7 ?_
      refine' tk 8 ?_
      refine' tk 9 ?_
      refine stp 10 (fun K hK=> ?_);go_simp
      skip
      refine hK.out _ _ (HC15.out _ (HB7'.out.trans (by exact Xt))) (fun hHeld=> ?_)
      clear hK K
      refine pt ?_
      refine stp 11 (fun K hK=> ?_);go_simp
      generalize hw8:World.alloc _ _=w8'
      have HB8:Hid (Ext wr w8'):=by unfold Hid;rw[←hw8];exact HB7'.out.trans (Ext.alloc _ _)
      clear hw8
      refine hK.out _ _ (HC15.out _ HB8.out) (fun hHeld=> ?_)
      clear hK K
      refine pt ?_
      refine' tk 12 ?_
      refine wpAnyH_done (by kernel_rfl) ?_ _
      go_wp2_with fail
      go_meet
      exact⟨rfl,KB.out.trans HB8.out⟩
     ·go_simp
      skip
      refine hK.out _ _ (HC15.out _ (by exact Xt)) (fun hHeld=> ?_)
      clear hK K
      refine pt ?_
      refine stp 6 (fun K hK=> ?_);go_simp
      (with_reducible refine(cG.out _ (KB.out.trans ?_)).mono ?_)
      ·exact Xt
      rintro e w7' ⟨rfl,hb7⟩
      have HRD:Hid (Row1 w7' wr.heap.size 32 opZero.cells):=by
       unfold Hid
       refine Row1.ext ?_ hb7 ?_
       ·exact Row1.made' (by first | rfl | simp) _ opZero.cells
       ·simp
      have HB7':Hid (Ext wr w7'):=Ext.trans (by exact Xt) hb7
      clear hb7
      (try dsimp only)
      (try go_simp)
      refine hK.out _ _ (HC15.out _ HB7'.out) (fun hHeld=> ?_)
      clear hK K
      refine pt ?_
      refine' tk 7 ?_
      refine' tk 8 ?_
      refine' tk 9 ?_
      obtain⟨a0,a1,a2,a3,a4,a5,a6,a7,a8,a9,a10⟩:=Z1r (show Row1 w7' wr.heap.size 32 [.int .i64 0,.int .i64 0,.int .i64 0,.int .i64 0,.int .i64 0,.int .i64 0,.int .i64 0,.bool false,.int .i64 0,.int .i64 0,.int .i64 0]from HRD.out)
      obtain⟨f0,f1,f2,f3,f4,f5,f6,f7,f8,f9,f10⟩:=Z4g HRD.out
      refine stp 11 (fun K hK=> ?_);go_simp
      have HB8:=hD (Y4j HB7'.out (Nat.le_refl _) (.int .i64 x1.id) (.int .i64 x1.proc) (.int .i64 x1.object) (.int .i64 x1.kind) (.int .i64 x1.method) (.int .i64 x1.arg) (.int .i64 x1.second) (.bool x1.done) (.int .i64 x1.result) (.int .i64 x1.invoke) (.int .i64 x1.ret))
      generalize hw8:World.setCell _ _ _=w8' at HB8 ⊢
      clear hw8 a0 a1 a2 a3 a4 a5 a6 a7 a8 a9 a10 f0 f1 f2 f3 f4 f5 f6 f7 f8 f9 f10
      refine hK.out _ _ (HC15.out _ HB8.out) (fun hHeld=> ?_)
      clear hK K
      refine pt ?_
      refine' tk 12 ?_
      refine wpAnyH_done (by kernel_rfl) ?_ _
      go_wp2_with fail
      go_meet
      exact⟨rfl,KB.out.trans HB8.out⟩
    case rest=>
    obtain⟨rfl,hbc⟩:=hcut
    have KC:=hD hbc
    clear hbc HC15 cG
    go_upto_region 16 with fail
    cases tt with
    | true=>
      have hibt:=HIM.out rfl
      subst hibt
      refine wp_region_held_drew (S:=fun W=>(W.cell? ⟨w.heap.size,0,none⟩=some (.int .i64 nk)∧W.cell? ⟨w.heap.size,1,none⟩=some (.slice nA nm nc)∧W.cell? ⟨w.heap.size,2,none⟩=some (.string nf)∧W.cell? ⟨w.heap.size,3,none⟩=some (.string ns)∧W.cell? ⟨w.heap.size,4,none⟩=some (.int .i64 nv))∧W.cell? ⟨b,off+m*11,none⟩=some (.int .i64 x.id)∧W.cell? ⟨b,off+m*11+1,none⟩=some (.int .i64 x.proc)∧W.cell? ⟨b,off+m*11+2,none⟩=some (.int .i64 x.object)∧W.cell? ⟨b,off+m*11+3,none⟩=some (.int .i64 x.kind)∧W.cell? ⟨b,off+m*11+4,none⟩=some (.int .i64 x.method)∧W.cell? ⟨b,off+m*11+5,none⟩=some (.int .i64 x.arg)∧W.cell? ⟨b,off+m*11+6,none⟩=some (.int .i64 x.second)∧W.cell? ⟨b,off+m*11+7,none⟩=some (.bool x.done)∧W.cell? ⟨b,off+m*11+8,none⟩=some (.int .i64 x.result)∧W.cell? ⟨b,off+m*11+9,none⟩=some (.int .i64 x.invoke)∧W.cell? ⟨b,off+m*11+10,none⟩=some (.int .i64 x.ret)) (by kernel_rfl) (HC16.out _ (KC.out.trans (by exact Xt))) (fun hHeld=> ?_)
      refine' tk 0 ?_
      refine' tk 1 ?_
      refine' tk 2 ?_
      refine' tk 3 ?_
      refine' tk 4 ?_
      refine' tk 5 ?_
      refine stp 6 (fun K hK=> ?_);go_simp
      (with_reducible refine(cT.out _ (KC.out.trans ?_)).mono ?_)
      ·exact Xt
      rintro e wd ⟨rfl,hbd⟩
      have KD:Hid (Ext w8 wd):=Ext.trans (KC.out.trans (by exact Xt)) hbd
      clear hbd
      (try dsimp only)
      (try go_simp)
      refine hK.out _ _ (HC16.out _ KD.out) (fun hHeld=> ?_)
      clear hK K
      refine pt ?_
      refine' tk 7 ?_
      refine' tk 8 ?_
      refine' tk 9 ?_
      refine' tk 10 ?_
      refine wpAnyH_done (by kernel_rfl) ?_ _
      go_wp2_with fail
      go_roundw
      case measure=>simp[intOf];omega
      case rel=>exact⟨m+1,by omega,by go_num,by exact Xx (KD.out)⟩
    | false=>
      refine wp_region_held_drew (S:=fun W=>(W.cell? ⟨w.heap.size,0,none⟩=some (.int .i64 nk)∧W.cell? ⟨w.heap.size,1,none⟩=some (.slice nA nm nc)∧W.cell? ⟨w.heap.size,2,none⟩=some (.string nf)∧W.cell? ⟨w.heap.size,3,none⟩=some (.string ns)∧W.cell? ⟨w.heap.size,4,none⟩=some (.int .i64 nv))∧W.cell? ⟨b,off+m*11,none⟩=some (.int .i64 x.id)∧W.cell? ⟨b,off+m*11+1,none⟩=some (.int .i64 x.proc)∧W.cell? ⟨b,off+m*11+2,none⟩=some (.int .i64 x.object)∧W.cell? ⟨b,off+m*11+3,none⟩=some (.int .i64 x.kind)∧W.cell? ⟨b,off+m*11+4,none⟩=some (.int .i64 x.method)∧W.cell? ⟨b,off+m*11+5,none⟩=some (.int .i64 x.arg)∧W.cell? ⟨b,off+m*11+6,none⟩=some (.int .i64 x.second)∧W.cell? ⟨b,off+m*11+7,none⟩=some (.bool x.done)∧W.cell? ⟨b,off+m*11+8,none⟩=some (.int .i64 x.result)∧W.cell? ⟨b,off+m*11+9,none⟩=some (.int .i64 x.invoke)∧W.cell? ⟨b,off+m*11+10,none⟩=some (.int .i64 x.ret)) (by kernel_rfl) (HC16.out _ (KC.out.trans (by exact Xt))) (fun hHeld=> ?_)
      refine' tk 0 ?_
      refine' tk 1 ?_
      refine' tk 2 ?_
      refine' tk 3 ?_
      refine' tk 4 ?_
      refine' tk 5 ?_
      refine stp 6 (fun K hK=> ?_);go_simp
      (with_reducible refine(cT.out _ (KC.out.trans ?_)).mono ?_)
      ·exact Xt
      rintro e wd ⟨rfl,hbd⟩
      have KD:Hid (Ext w8 wd):=Ext.trans (KC.out.trans (by exact Xt)) hbd
      clear hbd
      (try dsimp only)
      (try go_simp)
      refine hK.out _ _ (HC16.out _ KD.out) (fun hHeld=> ?_)
      clear hK K
      refine pt ?_
      refine' tk 7 ?_
      refine' tkn 8 ?_
      refine' tkn 9 ?_
      refine' tk 10 ?_
      refine wpAnyH_done (by kernel_rfl) ?_ _
      go_wp2_with fail
      go_roundw
      case measure=>simp[intOf];omega
      case rel=>exact⟨m+1,by omega,by go_num,by exact Xx (KD.out)⟩
   ·obtain rfl:m=ls.length:=by omega
    have hd:decide ((ls.length:Int)<(ls.length:Int))=false:=by simp
    go_wp2_with (go_at_call 27;(with_reducible refine(cA.out _).mono ?_);clear cA;rintro e we ⟨rfl,hxe⟩;have HXE:=hD (KB.out.trans hxe);clear hxe)
    go_ret
    exact⟨rfl,HX8.out.trans HXE.out⟩
end Go.Proofs.YtmiolpfanlpfnaaGreat
