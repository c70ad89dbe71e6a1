/- table.Range's closure, with a function as its yield: the walk. Conditions: a table's trees, at most three numbers ahead, a range that is one. -/
import Derived.Test.YtmiolpfanlpfnaaGreatW30
import Derived.Sort.CutIn
import Derived.Shelf.AbstractIn
set_option maxRecDepth 100000
set_option maxHeartbeats 4000000
set_option linter.unusedSimpArgs false
set_option linter.unusedVariables false
namespace Go.Proofs.YtmiolpfanlpfnaaGreat
section
open Go.RowKit
attribute [local go_sem] Oper.semAt_some
theorem X6w{A:Option Addr}{n c bt bw bf ba bo bl g tb p:Nat}{ts:Nat->Nat}{F Gc:Nat->Prop}{S:StoreD}{Ts:Nat->TrD}{l all:List OpD}{k:Nat}{J Jx:List OpD->(Nat->Prop)->World->Prop}(way:Nat)(fl:List Int)(lo hi:Int)(w:World)
 (ht:TblAt w tb p ts F)(hp:PagerAt w p F S)(hT:Tab S Ts (fun _=>l))(hd:∀i,i<5->depT (Ts i)<=31)(hw:way<5)
 (h1:Row1 w bt 26 [tp tb])(h2:Row1 w bw 3 [.int .i64 (way:Nat)])(h3:Row1 w bf 23 [.slice A n c])(h5:Row1 w ba 3 [.int .i64 lo])(h6:Row1 w bo 3 [.int .i64 hi])(n1:¬F bt)(n6:¬F bo)
 (hs:Sl w 1 RIn (.slice A n c) fl)(hl:∀x∈fl,In64 x)(hlo:In64 lo)(h4:fl.length<=3)(hk0:hi<lo->k=0)(hf:Ranges Ts way fl lo hi l all k)(hal:all.length<=100000)
 (hEn:∀(args:Array Value) (W:World),(callFunc g args).run Tryz.prog W= .ok (.enter g args) W)(hJ:Z2c J)(hJx:Z2c Jx)(hj:J [] Gc w)(hG:∀i,Gc i->i<w.heap.size/\¬F i/\i≠tb/\i≠bt/\i≠bo/\∀j,j<5->i≠ts j)
 (hY:∀(pre:List OpD) (x:OpD) (W:World) (G:Nat->Prop),J pre G W->pre.length<=100000->Calls Tryz.prog g #[x.val,.pointer (some ⟨bl,0,none⟩)] W fun e W'=>∃b:Bool,e= .returned (.bool b)/\YPost J Jx (pre++ [x]) G W b W'):
  Calls Tryz.prog 67 #[.func (.func g) #[] #[.pointer (some ⟨bl,0,none⟩)],.pointer (some ⟨bf,0,none⟩),.pointer (some ⟨ba,0,none⟩),.pointer (some ⟨bt,0,none⟩),.pointer (some ⟨bw,0,none⟩),.pointer (some ⟨bo,0,none⟩)] w fun e w'=>
   (∃v,e= .returned v)/\∃(F2 G2:Nat->Prop) (j:Nat),j<=k/\j<=all.length/\((j=k/\J (all.take j) G2 w')\/Jx (all.take j) G2 w')/\TblAt w' tb p ts F2/\(PagerAt w' p F2 S/\∀i,G2 i->¬F2 i)/\Keeps (Un F Gc) (Un F2 G2) w w':=by
 have hn3:n<=3:=by have:=hs.at.1;omega
 have hlen:(fl++ [lo]).length<=4:=by rw[aA,aK];omega
 have hof:OfR (fl++ [lo])= .tuple #[.string (bts (keyL (fl++ [lo]))),.int .i64 0]:=by unfold OfR;rw[if_neg (by omega)]
 have hl5:∀x∈fl++ [lo],In64 x:=fun x hx=>by
  rcases List.mem_append.1 hx with q | q
  ·exact hl x q
  ·rw[List.mem_singleton.1 q];exact hlo
 have cO:Hid (∀(A':Option Addr) (c':Nat) (W:World),Sl W 1 RIn (.slice A' (fl++ [lo]).length c') (fl++ [lo])->Calls Tryz.prog 68 #[.slice A' (fl++ [lo]).length c'] W fun e w'=>e= .returned (.tuple #[.string (bts (keyL (fl++ [lo]))),.int .i64 0])/\Ext W w'):=fun A' c' W hW=>by rw[<-hof];exact X4k (fl++ [lo]) W hW hl5 (by omega)
 have cC:Hid (∀W,Ext w W->Calls Tryz.prog 69 #[.slice A n c] W fun e w'=>∃v',e= .returned v'/\OwnL w' W.heap.size 3 1 encN v' fl/\Ext W w'):=fun W hW=>Y6p W (hs.ext hW) (by omega);have cM:Hid (∀W,Ext w W->Calls Tryz.prog 70 #[tp tb] W fun e w'=>e= .returned (.bool true)/\W=w'):=fun W hW=>Z2w W (ht.ext hW).row;have HC:Hid (∀W,Ext w W->W.cell? ⟨bt,0,none⟩=some (tp tb)/\W.cell? ⟨bw,0,none⟩=some (.int .i64 (way:Nat))/\W.cell? ⟨bf,0,none⟩=some (.slice A n c)/\W.cell? ⟨ba,0,none⟩=some (.int .i64 lo)/\W.cell? ⟨bo,0,none⟩=some (.int .i64 hi)):=fun W hW=>⟨(h1.ext hW h1.lt).cell 0,(h2.ext hW h2.lt).cell 0,(h3.ext hW h3.lt).cell 0,(h5.ext hW h5.lt).cell 0,(h6.ext hW h6.lt).cell 0⟩;have HC1:Hid (∀W,Ext w W->W.cell? ⟨bf,0,none⟩=some (.slice A n c)/\W.cell? ⟨ba,0,none⟩=some (.int .i64 lo)):=fun W hW=>⟨(HC.out W hW).2.2.1,(HC.out W hW).2.2.2.1⟩;obtain⟨bg,hbg⟩:∃bg,bts (keyL (fl++ [lo]))=bg:=⟨_,rfl⟩;have HBG:=hD hbg;have HHD:Hid (bg.extract 0 (8*fl.length)=bts (keyL fl)/\8*fl.length<=bg.size):=by
  have e:keyL (fl++ [lo])=([]:List UInt8)++keyL fl++keyL [lo]:=by unfold keyL;rw[aH,List.nil_append]
  refine⟨by rw[<-hbg,e];exact Z6j [] (keyL fl) (keyL [lo]) 0 _ rfl (by rw[Z1m];omega),by rw[<-hbg,Z0i,Z1m,aA];omega⟩
 have hfo:=hf.outs;rw[hbg]at cO hfo;have HFO:=hD hfo;have HNF:Hid (n=fl.length):=hs.at.1;have HL5:Hid ((fl++ [lo]).length=n+1):=by unfold Hid;rw[aA,aK,HNF.out]
 rw[HL5.out]at cO;have HFLN:Hid (fl.length<=3):=h4;clear hof hbg hs hl hfo hl5 hlen h4;refine callsIn_wide (n:=3).1 ?_;refine callsIn_of_wp_marks Tryz.func67 rfl trivial ?_ rfl;simp only[Tryz.ntmps67,List.size_toArray,List.length_cons,List.length_nil,Nat.reduceAdd,Nat.reduceSub,Array.replicate_succ,Array.replicate_zero,List.push_toArray,List.append_toArray,List.nil_append,List.cons_append];obtain⟨W0,hW0⟩:∃W0,w.alloc (.cells #[.func (.func g) #[] #[.pointer (some ⟨bl,0,none⟩)]] 46)=W0:=⟨_,rfl⟩;have HX0:Hid (Ext w W0):=by unfold Hid;rw[<-hW0];exact Ext.alloc _ _
 have HY0:Hid (Row1 W0 w.heap.size 46 [.func (.func g) #[] #[.pointer (some ⟨bl,0,none⟩)]]):=by unfold Hid;rw[<-hW0];exact Row1.made w _ _
 have hwz:w.heap.size<W0.heap.size:=HY0.out.lt
 gi_upto_region 1 with fail
 clear hW0
 gi_cut [7,8]from 104 (fun s7 s8 wx=>s7= .string bg/\s8= .int .i64 0/\Ext W0 wx)
 case first=>
  refine Z2d (wpIn_wide.2 ?_);refine wp_region_held_drew (S:=fun W=>W.cell? ⟨bf,0,none⟩=some (.slice A n c)/\W.cell? ⟨ba,0,none⟩=some (.int .i64 lo)) (by kernel_rfl) (HC1.out _ (HX0.out.trans (by exact Xt))) (fun hHeld=> ?_);refine' tk 0 ?_;refine' tk 2 ?_;refine wpAnyH_ready (rs:= [1,3]) (by kernel_rfl) (by simp) ?_;refine AllReadyH.cons rfl (fun K hK=> ?_) (AllReadyH.cons rfl (fun K hK=> ?_) (AllReadyH.nil))
  ·go_simp
   (with_reducible refine(cC.out _ (HX0.out.trans ?_)).mono ?_)
   ·exact Xt
   rintro e w3 ⟨v3,rfl,ho3,hx3⟩;obtain⟨cA,cc,rfl⟩:=ho3.form;have HX3:Hid (Ext W0 w3):=Ext.trans (by exact Xt) hx3;have HO3:Hid (OwnL w3 W0.heap.size 3 1 encN (.slice cA fl.length cc) fl):=ho3.lower (by first | (simp;done) | (show W0.heap.size<=(W0.alloc _).heap.size;simp) | exact aF _);clear ho3 hx3
   (try dsimp only)
   (try go_simp)
   refine hK.out _ _ (HC1.out _ (HX0.out.trans HX3.out)) (fun hHeld=> ?_);clear hK K;refine pt ?_;refine stp 3 (fun K hK=> ?_);go_simp
   skip
   refine hK.out _ _ (HC1.out _ (HX0.out.trans (HX3.out.trans (by exact Xt)))) (fun hHeld=> ?_);clear hK K;refine pt ?_;refine stp 4 (fun K hK=> ?_);refine Z3a elInt Z0f Z1q rfl (.tmp 18) (.tmp 20) rfl (.slice cA fl.length cc) fl rfl (HO3.out.ext (by exact Xt)) (by have:=HX3.out.size;simp;omega) _ 1 lo rfl (Row1.made _ _ (encN lo)) (by have:=HFLN.out;omega) (by decide) ?_;intro A5 c5 w5 hown5 hgr5 _;have HX5:Hid (Ext W0 w5):=(HO3.out.ext (w':=w3.alloc (.cells #[.int .i64 lo] 3)) (by exact Xt)).grown (a:=W0) (HX3.out.trans (by exact Xt)) hgr5 (aF _);rw[HL5.out]at hown5 ⊢;have HS5:Hid (Sl w5 1 RIn (.slice A5 (n+1) c5) (fl++ [lo])):=hown5.sl (R:=RIn) (fun _=>rfl) (fun _=>rfl);clear hown5 hgr5;refine hK.out _ _ (HC1.out _ (HX0.out.trans HX5.out)) (fun hHeld=> ?_);clear hK K;refine pt ?_;refine stp 5 (fun K hK=> ?_);go_simp
   (with_reducible refine(cO.out _ _ _ HS5.out).mono ?_)
   rintro e w6 ⟨rfl,hx6⟩;have HX6:Hid (Ext W0 w6):=HX5.out.trans hx6;clear hx6
   (try dsimp only)
   (try go_simp)
   refine hK.out _ _ (HC1.out _ (HX0.out.trans HX6.out)) (fun hHeld=> ?_);clear hK K;refine pt ?_;refine' tk 6 ?_;refine' tk 7 ?_;refine' tk 8 ?_;refine' tk 9 ?_;refine' tk 10 ?_;refine wpAnyH_done (by kernel_rfl) ?_ _;dsimp only[Z8u]
   apply_assumption
   gi_meet
   exact⟨rfl,rfl,HX6.out⟩
  ·go_simp
   skip
   refine hK.out _ _ (HC1.out _ (HX0.out.trans (by exact Xt))) (fun hHeld=> ?_);clear hK K;refine pt ?_;refine stp 1 (fun K hK=> ?_);go_simp
   (with_reducible refine(cC.out _ (HX0.out.trans ?_)).mono ?_)
   ·exact Xt
   rintro e w3 ⟨v3,rfl,ho3,hx3⟩;obtain⟨cA,cc,rfl⟩:=ho3.form;have hr0:Row1 (W0.alloc (.cells #[.int .i64 lo] 3)).drew W0.heap.size 3 (encN lo):=Row1.made W0 3 (encN lo);have HR3:Hid (Row1 w3 W0.heap.size 3 (encN lo)):=hr0.ext hx3 hr0.lt;clear hr0;have HX3:Hid (Ext W0 w3):=Ext.trans (by exact Xt) hx3;have HO3:Hid (OwnL w3 W0.heap.size 3 1 encN (.slice cA fl.length cc) fl):=ho3.lower (by first | (simp;done) | (show W0.heap.size<=(W0.alloc _).heap.size;simp) | exact aF _);clear ho3 hx3
   (try dsimp only)
   (try go_simp)
   refine hK.out _ _ (HC1.out _ (HX0.out.trans HX3.out)) (fun hHeld=> ?_);clear hK K;refine pt ?_;refine stp 4 (fun K hK=> ?_);refine Z3a elInt Z0f Z1q rfl (.tmp 18) (.tmp 20) rfl (.slice cA fl.length cc) fl rfl HO3.out (by have:=HX3.out.size;omega) _ 1 lo rfl HR3.out (by have:=HFLN.out;omega) (by decide) ?_;intro A5 c5 w5 hown5 hgr5 _;have HX5:Hid (Ext W0 w5):=HO3.out.grown (a:=W0) HX3.out hgr5 (aF _);rw[HL5.out]at hown5 ⊢;have HS5:Hid (Sl w5 1 RIn (.slice A5 (n+1) c5) (fl++ [lo])):=hown5.sl (R:=RIn) (fun _=>rfl) (fun _=>rfl);clear hown5 hgr5;refine hK.out _ _ (HC1.out _ (HX0.out.trans HX5.out)) (fun hHeld=> ?_);clear hK K;refine pt ?_;refine stp 5 (fun K hK=> ?_);go_simp
   (with_reducible refine(cO.out _ _ _ HS5.out).mono ?_)
   rintro e w6 ⟨rfl,hx6⟩;have HX6:Hid (Ext W0 w6):=HX5.out.trans hx6;clear hx6
   (try dsimp only)
   (try go_simp)
   refine hK.out _ _ (HC1.out _ (HX0.out.trans HX6.out)) (fun hHeld=> ?_);clear hK K;refine pt ?_;refine' tk 6 ?_;refine' tk 7 ?_;refine' tk 8 ?_;refine' tk 9 ?_;refine' tk 10 ?_;refine wpAnyH_done (by kernel_rfl) ?_ _;dsimp only[Z8u]
   apply_assumption
   gi_meet
   exact⟨rfl,rfl,HX6.out⟩
 case rest=>
 obtain⟨rfl,rfl,hbc⟩:=hcut;have HB1:Hid (Ext w wc):=HX0.out.trans hbc;have HYC:Hid (Row1 wc w.heap.size 46 [.func (.func g) #[] #[.pointer (some ⟨bl,0,none⟩)]]):=HY0.out.ext hbc HY0.out.lt;clear hbc HX0 HY0 hwz;generalize wc=w1 at *;obtain⟨d1,d2,d3,d4,d5⟩:=HC.out _ HB1.out;have q1:decide ((way:Int)<0)=false:=aM;have q2:decide ((5:Int)<=(way:Int))=false:=aM;by_cases hle:hi<lo
 ·have q3:decide (hi<lo)=true:=decide_eq_true hle;have hk:=hk0 hle;have hJ1:=hJ _ _ _ _ hj (fun i q=>(hG i q).1) (Only.of HB1.out);have HFIN:Hid (∃(F2 G2:Nat->Prop) (j:Nat),j<=k/\j<=all.length/\((j=k/\J (all.take j) G2 w1)\/Jx (all.take j) G2 w1)/\TblAt w1 tb p ts F2/\(PagerAt w1 p F2 S/\∀i,G2 i->¬F2 i)/\Keeps (Un F Gc) (Un F2 G2) w w1):=⟨F,Gc,0,by omega,by omega,.inl ⟨by omega,by rw[List.take_zero];exact hJ1⟩,ht.ext HB1.out,⟨hp.ext HB1.out,fun i q=>(hG i q).2.1⟩,Keeps.of HB1.out⟩;gi_wp2_with (refine ⟨trivial,?_⟩;gi_at_call 70;refine(callsIn_wide.2 (cM.out _ HB1.out)).mono ?_;clear cM;rintro e w2 ⟨rfl,rfl⟩);exact⟨_,results_none rfl _ _ _,⟨_,rfl⟩,HFIN.out⟩
 have q3:decide (hi<lo)=false:=decide_eq_false hle
 gi_upto_region 3 with (refine ⟨trivial,?_⟩;gi_at_call 70;refine(callsIn_wide.2 (cM.out _ HB1.out)).mono ?_;clear cM;rintro e w2 ⟨rfl,rfl⟩)
 clear d1 d2 d3 d4 d5 q1 q2 q3;have HSZ:Hid (8*n<=bg.size/\bg.extract 0 (8*n)=bts (keyL fl)):=by unfold Hid;rw[HNF.out];exact⟨HHD.out.2,HHD.out.1⟩
 have z1:IntKind.i64.wrap (8*(n:Int))=8*(n:Int):=by rw[IntKind.wrap_i64];omega
 have z2:(0:Int)<=8*(n:Int):=by omega
 have z3:(8*(n:Int)).toNat=8*n:=by omega
 have z4:8*n<=bg.size:=HSZ.out.1;have z5:8*(n:Int)<=(bg.size:Int):=by omega
 gi_cut [9,10]from 104 (fun s9 s10 wx=>∃bh bn:Nat,s9= .pointer (some ⟨bh,0,none⟩)/\s10= .pointer (some ⟨bn,0,none⟩)/\Hid (w1.heap.size<=bh/\w1.heap.size<=bn/\Row1 wx bh 9 [.string (bts (keyL fl))]/\Row1 wx bn 3 [.int .i64 n]/\Ext w1 wx))
 case first=>
  refine Z2d (wpIn_wide.2 ?_);refine wp_region_held_drew (S:=fun W=>W.cell? ⟨bf,0,none⟩=some (.slice A n c)) (by kernel_rfl) ((HC1.out _ (HB1.out.trans (by exact Xt))).1) (fun hHeld=> ?_);refine' tk 0 ?_;refine' tk 1 ?_;refine' tk 2 ?_;refine' tk 3 ?_;refine' tk 4 ?_;refine' tk 5 ?_;refine' tk 6 ?_;refine wpAnyH_ready (rs:= [7,8]) (by kernel_rfl) (by simp) ?_;refine AllReadyH.cons rfl (fun K hK=> ?_) (AllReadyH.cons rfl (fun K hK=> ?_) (AllReadyH.nil))
  ·go_simp
   skip
   refine hK.out _ _ ((HC1.out _ (HB1.out.trans (by exact Xt))).1) (fun hHeld=> ?_);clear hK K;refine pt ?_;refine stp 8 (fun K hK=> ?_);go_simp
   skip
   refine hK.out _ _ ((HC1.out _ (HB1.out.trans (by exact Xt))).1) (fun hHeld=> ?_);clear hK K;refine pt ?_;refine stp 9 (fun K hK=> ?_);go_simp
   skip
   refine hK.out _ _ ((HC1.out _ (HB1.out.trans (by exact Xt))).1) (fun hHeld=> ?_);clear hK K;refine pt ?_;refine stp 10 (fun K hK=> ?_);go_simp
   skip
   refine hK.out _ _ ((HC1.out _ (HB1.out.trans (by exact Xt))).1) (fun hHeld=> ?_);clear hK K;refine pt ?_;refine wpAnyH_done (by kernel_rfl) ?_ _;dsimp only[Z8u]
   apply_assumption
   gi_meet
   refine⟨_,_,rfl,rfl,⟨aF _,by simp,?_,?_,by exact Xt⟩⟩
   ·rw[<-HSZ.out.2];exact((Row1.made w1 9 [.string (bg.extract 0 (8*n))]).alloc _).same rfl
   ·exact(Row1.made' (by simp) 3 [.int .i64 n]).same rfl
  ·go_simp
   skip
   refine hK.out _ _ ((HC1.out _ (HB1.out.trans (by exact Xt))).1) (fun hHeld=> ?_);clear hK K;refine pt ?_;refine stp 7 (fun K hK=> ?_);go_simp
   skip
   refine hK.out _ _ ((HC1.out _ (HB1.out.trans (by exact Xt))).1) (fun hHeld=> ?_);clear hK K;refine pt ?_;refine stp 9 (fun K hK=> ?_);go_simp
   skip
   refine hK.out _ _ ((HC1.out _ (HB1.out.trans (by exact Xt))).1) (fun hHeld=> ?_);clear hK K;refine pt ?_;refine stp 10 (fun K hK=> ?_);go_simp
   skip
   refine hK.out _ _ ((HC1.out _ (HB1.out.trans (by exact Xt))).1) (fun hHeld=> ?_);clear hK K;refine pt ?_;refine wpAnyH_done (by kernel_rfl) ?_ _;dsimp only[Z8u]
   apply_assumption
   gi_meet
   refine⟨_,_,rfl,rfl,⟨by simp,aF _,?_,?_,by exact Xt⟩⟩
   ·rw[<-HSZ.out.2];exact(Row1.made' (by simp) 9 [.string (bg.extract 0 (8*n))]).same rfl
   ·exact((Row1.made w1 3 [.int .i64 n]).alloc _).same rfl
 case rest=>
 obtain⟨bh,bn,rfl,rfl,hbb⟩:=hcut;have HBB:=hD hbb.out;clear hbb z1 z2 z3 z4 z5 HSZ HBG HHD;generalize wc=W2 at *;have hx2:Ext w W2:=HB1.out.trans HBB.out.2.2.2.2;have HX2:=hD hx2;have HYY:Hid (Row1 W2 w.heap.size 46 [.func (.func g) #[] #[.pointer (some ⟨bl,0,none⟩)]]):=HYC.out.ext HBB.out.2.2.2.2 HYC.out.lt;have hzb:w.heap.size<w1.heap.size:=HYC.out.lt;have HTC:Hid (w.cell? ⟨tb,way,none⟩=some (tp (ts way))):=by unfold Hid;rw[ht.row.cell way,Y2w _ _ _ hw,if_pos hw]
 have htbl:=ht.row.lt;have HCC:Hid (∀W,Ext W2 W->W.cell? ⟨bt,0,none⟩=some (tp tb)/\W.cell? ⟨bw,0,none⟩=some (.int .i64 (way:Nat))/\W.cell? ⟨tb,way,none⟩=some (tp (ts way))):=fun W hW=>
  ⟨(HC.out _ (HX2.out.trans hW)).1,(HC.out _ (HX2.out.trans hW)).2.1,((HX2.out.trans hW).cell (p:=⟨tb,way,none⟩) htbl).trans HTC.out⟩
 have cF:Hid (∀W,Calls Tryz.prog 71 #[.pointer (some ⟨ts way,0,none⟩),.string bg] W (X8n (ts way) bg W)):=fun W=>Y8h (ts way) bg W;have hw0:(0:Int)<=(way:Int):=by omega
 have hw5:(way:Int)<5:=by omega
 clear hx2
 gi_upto_region 4 with fail
 refine Z2d (wpIn_wide.2 ?_);refine wp_region_held_drew (S:=fun W=>W.cell? ⟨bt,0,none⟩=some (tp tb)/\W.cell? ⟨bw,0,none⟩=some (.int .i64 (way:Nat))/\W.cell? ⟨tb,way,none⟩=some (tp (ts way))) (by kernel_rfl) (HCC.out _ (by exact Xt)) (fun hHeld=> ?_);refine' tk 0 ?_;refine' tk 1 ?_;refine' tk 2 ?_;refine' tk 3 ?_;refine' tk 4 ?_;refine' tk 5 ?_;refine' tk 6 ?_;refine stp 7 (fun K hK=> ?_);go_simp
 (with_reducible refine(cF.out _).mono ?_)
 rintro e w3 ⟨fb,kb,rfl,h31,h32,h33,h34,h35⟩;have HX3:Hid (Ext W2 w3):=Ext.trans (by exact Xt) h31
 (try dsimp only)
 (try go_simp)
 refine hK.out _ _ (HCC.out _ HX3.out) (fun hHeld=> ?_);clear hK K;refine pt ?_;refine wpAnyH_done (by kernel_rfl) ?_ _;dsimp only[Z8u];gi_wp2;have hw3:Ext w w3:=HX2.out.trans HX3.out;have hz3:=HX3.out.size;have hzw:=HX2.out.size;have hz12:=HBB.out.2.2.2.2.size;have hyy:=HYY.out.lt;have hbt:=h1.lt;have hbo:=h6.lt;have hbh:=HBB.out.2.2.1.lt;have hbn:=HBB.out.2.2.2.1.lt;have hbh1:=HBB.out.1;have hbn1:=HBB.out.2.1;have hfb:W2.heap.size<=fb:=h32;have hkb:W2.heap.size<=kb:=h33;have hfl:=h34.lt;have hkl:=h35.lt;have hsz:W2.heap.size<=w3.heap.size:=hz3;have htl:∀j,j<5->ts j<w.heap.size:=fun j hj=>(ht.tree j hj).lt;have hTF:∀i,RT tb ts bt bh bn bo w.heap.size i->i<w3.heap.size/\¬(F i/\i<w.heap.size)/\¬Gc i:=fun i q=>by
  rcases q with rfl | ⟨j,hj5,rfl⟩ | rfl | rfl | rfl | rfl | rfl
  ·exact⟨by omega,fun r=>ht.out r.1,fun r=>(hG _ r).2.2.1 rfl⟩
  ·exact⟨by have:=htl j hj5;omega,fun r=>ht.outs j hj5 r.1,fun r=>(hG _ r).2.2.2.2.2 j hj5 rfl⟩
  ·exact⟨by omega,fun r=>n1 r.1,fun r=>(hG _ r).2.2.2.1 rfl⟩
  ·exact⟨by omega,fun r=>by omega,fun r=>by have:=(hG _ r).1;omega⟩
  ·exact⟨by omega,fun r=>by omega,fun r=>by have:=(hG _ r).1;omega⟩
  ·exact⟨by omega,fun r=>n6 r.1,fun r=>(hG _ r).2.2.2.2.1 rfl⟩
  ·exact⟨by omega,fun r=>by omega,fun r=>by have:=(hG _ r).1;omega⟩
 have HFR:Hid (RRows tb p ts bt bh bn bo w.heap.size (bts (keyL fl)) n hi (.func (.func g) #[] #[.pointer (some ⟨bl,0,none⟩)]) w3):=⟨ht.row.ext hw3 ht.row.lt,fun j hj5=>(ht.tree j hj5).ext hw3 (ht.tree j hj5).lt,h1.ext hw3 h1.lt,HBB.out.2.2.1.ext HX3.out hbh,HBB.out.2.2.2.1.ext HX3.out hbn,h6.ext hw3 h6.lt,HYY.out.ext HX3.out hyy⟩;have HIT:Hid (ItT p (ts way) way S (fun b=>b=fb\/b=kb) (fun i=>F i/\i<w.heap.size) w3):=⟨PagerAt.ext (F:=fun i=>F i/\i<w.heap.size) hp.shrink hw3,(ht.tree way hw).ext hw3 (ht.tree way hw).lt,fun q=>ht.outs way hw q.1,fun b q=>by rcases q with rfl | rfl<;>exact⟨fun r=>by omega,by omega⟩⟩;have HDI:Hid (Dis (fun i=>F i/\i<w.heap.size) (fun i=>Gc i\/RT tb ts bt bh bn bo w.heap.size i) w3):=⟨fun i q=>by omega,fun i q=>by
  rcases q with q | q
  ·exact⟨by have:=(hG i q).1;omega,fun r=>(hG i q).2.1 r.1⟩
  ·exact⟨(hTF i q).1,(hTF i q).2.1⟩⟩
 have HFI:Hid (RgI tb p ts bt bh bn bo w.heap.size way (bts (keyL fl)) n hi (.func (.func g) #[] #[.pointer (some ⟨bl,0,none⟩)]) J all k [] (fun i=>Gc i\/RT tb ts bt bh bn bo w.heap.size i) w3):=⟨Gc,rfl,fun i q=>(hTF i q).2.2,rfl,Nat.zero_le _,Nat.zero_le _,HFR.out,by rw[List.length_nil,List.take_zero];exact hJ _ _ _ _ hj (fun i q=>(hG i q).1) (Only.of hw3)⟩;have HE:Hid (∀(D:Nat) (W:World) (F1 Gc1:Nat->Prop) (j:Nat),w3.heap.size<=D->(∀i,RT tb ts bt bh bn bo w.heap.size i->¬Gc1 i)->j<=k->j<=all.length->RRows tb p ts bt bh bn bo w.heap.size (bts (keyL fl)) n hi (.func (.func g) #[] #[.pointer (some ⟨bl,0,none⟩)]) W->((j=k/\J (all.take j) Gc1 W)\/Jx (all.take j) Gc1 W)->ItT p (ts way) way S (fun b=>b=fb\/b=kb) F1 W->Dis F1 (fun i=>Gc1 i\/RT tb ts bt bh bn bo w.heap.size i) W->¬F1 D->¬(Gc1 D\/RT tb ts bt bh bn bo w.heap.size D)->Keeps (Un (fun i=>F i/\i<w.heap.size) (fun i=>Gc i\/RT tb ts bt bh bn bo w.heap.size i)) (Un F1 (fun i=>Gc1 i\/RT tb ts bt bh bn bo w.heap.size i)) w3 W->
   ∃(F2 G2:Nat->Prop) (j:Nat),j<=k/\j<=all.length/\((j=k/\J (all.take j) G2 (W.putObj D (.deferred none)))\/Jx (all.take j) G2 (W.putObj D (.deferred none)))/\TblAt (W.putObj D (.deferred none)) tb p ts F2/\(PagerAt (W.putObj D (.deferred none)) p F2 S/\∀i,G2 i->¬F2 i)/\Keeps (Un F Gc) (Un F2 G2) w (W.putObj D (.deferred none))):=fun D W F1 Gc1 j jH hg1 hjk hja hfr hfj hit hdd hn1' hn2' hk=>by
  have ho:=Only.putObj W D (.deferred none);have hJo:Only (fun i=>¬Gc1 i) W (W.putObj D (.deferred none)):=ho.mono (fun i q=> .inl (fun r=>hn2' (.inl (q▸r))));have hfr2:=hfr.only ho (fun i q r=>hn2' (.inr (r▸q)));have hkk:=HFR.out.keeps hfr (fun i q=>⟨(hdd.2 i (.inr q)).2,hg1 i q⟩) hk;have hgl:∀i,Gc1 i->i<W.heap.size:=fun i q=>(hdd.2 i (.inl q)).1;refine⟨F1,Gc1,j,hjk,hja,hfj.imp (fun q=>⟨q.1,hJ _ _ _ _ q.2 hgl hJo⟩) (fun q=>hJx _ _ _ _ q hgl hJo),hfr2.tbl (fun i q=>(hdd.2 i (.inr q)).2),⟨hit.1.only ho (fun i q r=>hn1' (r▸q)),fun i q=>(hdd.2 i (.inl q)).2⟩,?_⟩;have k1:Keeps (Un (fun i=>F i/\i<w.heap.size) Gc) (Un F1 Gc1) w W:=(Keeps.of hw3).trans hkk;have k2:Keeps (Un F Gc) (Un F1 Gc1) w W:=k1.widen (fun i q=>q.elim (fun q=> .inl q.1) .inr);exact⟨k2.only.trans ho (fun i q=> .inr (by have:=hw3.size;omega)),k2.new⟩
 have HGET:Hid (∀o,o∈l->getL l o.id=some o):=fun o ho=>Y8g (hT.ids 0 (by omega)) ho;refine V2n (motive:=fun a=>Code.wpIn Fence.wide 3 Tryz.prog _ _ a _) (fun a0 hA0=> ?_);refine Z4h rfl (by decide) (gf:=131) (lb:=#[.pointer (some ⟨fb,0,none⟩),.pointer (some ⟨kb,0,none⟩)]) (by rw[hA0];rfl) trivial (enters_of Tryz.func131 (by kernel_rfl) rfl)
  (Y4g (K:=fun b=>b=fb\/b=kb) bg (Ts way) w3 (hT.tr way hw) (Z8j (hd way hw)) (by omega) h34 h35 (.inl rfl) (.inr rfl)) (Ext.refl w3) (fun _=>rfl) (fun i=>F i/\i<w.heap.size) (fun i=>Gc i\/RT tb ts bt bh bn bo w.heap.size i) (ItT.abides (p:=p) (i:=way) (aE (htl way hw) hw3.size))
  HIT.out HDI.out (RgI tb p ts bt bh bn bo w.heap.size way (bts (keyL fl)) n hi (.func (.func g) #[] #[.pointer (some ⟨bl,0,none⟩)]) J all k)
  (fun c pre G W=>c= .ret/\RgX tb p ts bt bh bn bo w.heap.size (bts (keyL fl)) n hi (.func (.func g) #[] #[.pointer (some ⟨bl,0,none⟩)]) J Jx all k G W)
  (RgI.abides hJ) (fun c s G W W' q q2 q3=>⟨q.1,RgX.abides hJ hJx G W W' q.2 q2 q3⟩) HFI.out
  (fun x=> { tmps:=(((a0.tmps.setIfInBounds 60 (.string x.1)).setIfInBounds 61 (.string x.2)).setIfInBounds 11 (.string x.1)),defers:= []}) ?assign ?body ?done ?stop
 case assign=>
  intro l x W K hK;subst hA0;simp only[V3o,X8o,List.setIfInBounds_toArray,List.set_cons_succ,List.set_cons_zero]at hK ⊢;gi_wp2;exact hK
 case body=>
  rintro l' pre x W F1 G1 ⟨Gc1,rfl,hg1,hpre,hpk,hpa,hfr,hfj⟩ hit hdd hok;rw[HFO.out]at hok;obtain⟨m,hm⟩:∃m,pre.length=m:=⟨_,rfl⟩;rw[hm]at hpre hpk hpa hfj;have hxm:all[m]?.map (kvW way)=some x:=by
   have e1:(pre++ [x])[m]? =some x:=by rw[<-hm];simp
   obtain⟨r,hr⟩:=hok;have e2:(all.map (kvW way))[m]? =some x:=by rw[<-hr,aL (by rw[aA,hm];simp)];exact e1
   rwa [List.getElem?_map]at e2
  have hml:m<all.length:=by
   rcases Nat.lt_or_ge m all.length with q | q
   ·exact q
   ·rw[List.getElem?_eq_none q]at hxm;cases hxm
  obtain⟨o,hoe⟩:∃o,all[m]=o:=⟨_,rfl⟩;rw[aB hml,hoe]at hxm;obtain rfl:kvW way o=x:=by injection hxm
  have hol:o∈l:=by rw[<-hoe];exact hf.mem _ (List.getElem_mem hml)
  have hoc:=hT.ok way hw o hol;have hin:=OpIn.of hoc;have hwl:=Z2u way o;have cS:Calls Tryz.prog 72 #[.string (wayK way o)] W fun e w'=>∃v,e= .returned (.tuple #[v,.int .i64 0])/\OwnL w' W.heap.size 3 1 encN v (wayL way o)/\Ext W w':=Y9j (wayL way o) W (hin.way way) (by omega);have hid64:In64 o.id:=by have:=hin.id;unfold In64;omega
  have hgl:getL l o.id=some o:=HGET.out o hol;have HFRW:=hD hfr;have HFJW:=hD hfj;have HITW:=hD hit;have HDDW:=hD hdd;have HTAB:=hD hT;have hF6:∀i,F1 i->i<W.heap.size:=HDDW.out.1;have HSTAY:Hid (∀W',Ext W W'->ItT p (ts way) way S (fun b=>b=fb\/b=kb) F1 W'/\Dis F1 (fun i=>Gc1 i\/RT tb ts bt bh bn bo w.heap.size i) W'/\Keeps (Un F1 (fun i=>Gc1 i\/RT tb ts bt bh bn bo w.heap.size i)) (Un F1 (fun i=>Gc1 i\/RT tb ts bt bh bn bo w.heap.size i)) W W'/\RRows tb p ts bt bh bn bo w.heap.size (bts (keyL fl)) n hi (.func (.func g) #[] #[.pointer (some ⟨bl,0,none⟩)]) W'/\J (all.take m) Gc1 W'):=fun W' hx=>
   ⟨HITW.out.ext hx,⟨fun i q=>aE (HDDW.out.1 i q) hx.size,fun i q=>⟨aE (HDDW.out.2 i q).1 hx.size,(HDDW.out.2 i q).2⟩⟩,Keeps.of hx,HFRW.out.only (Only.of (F:=fun _=>False) hx) (fun _ _ q=>q),hJ _ _ _ _ HFJW.out (fun i q=>(HDDW.out.2 i (.inl q)).1) (Only.of hx)⟩
  have HRT:Hid (∀i,RT tb ts bt bh bn bo w.heap.size i->¬F1 i):=fun i q=>(HDDW.out.2 i (.inr q)).2;obtain⟨go,hgo⟩:∃go,goR way fl hi o=go:=⟨_,rfl⟩;have HGO:Hid ((Z4k (wayK way o) (bts (keyL fl))&&(match (wayL way o)[fl.length]? with | some x=>decide (x<=hi) | none=>false))=go):=hgo;have HST:Hid ((go=false->m=k)/\(go=true->m<k)):=⟨fun e=>by
   rcases Nat.lt_or_ge m k with q | q
   ·have:=hf.under m hml q;rw[hoe,hgo,e]at this;cases this
   ·omega,fun e=>by
   rcases Nat.lt_or_ge m k with q | q
   ·exact q
   ·have e1:m=k:=by omega
    subst e1;have:=hf.stop hml;rw[hoe,hgo,e]at this;cases this⟩
  have HPL:=hD hm;have htl':(all.take m).length=m:=by rw[aD];omega
  have htk:all.take m++ [o]=all.take (m+1):=by rw[List.take_add_one,aB hml,hoe];rfl
  have HTK:Hid (((all.take m).length:Nat)=m/\all.take m++ [o]=all.take (m+1)):=⟨htl',htk⟩;have HPX:Hid (pre++ [kvW way o]=(all.take (m+1)).map (kvW way)):=by unfold Hid;rw[<-htk,List.map_append,<-hpre];rfl
  clear hfr hfj hit hdd hT hin hok hxm hoe hgo hm hpre htl' htk;subst hA0;dsimp only[kvW];simp only[List.setIfInBounds_toArray,List.set_cons_succ,List.set_cons_zero]
  gi_upto_region 7 with (refine ⟨trivial,?_⟩;gi_at_call 72;refine(CallsIn.inRound l' (callsIn_wide.2 cS)).mono ?_;clear cS;rintro e w6 ⟨v6,rfl,ho6,hx6⟩;obtain⟨sb,c6,q6,rfl,hq6,hl6,hb6,hs6,hc6,hca6⟩:=X1p ho6;have HX6:=hD hx6;have HCA:=hD hca6;have HL6:=hD hl6;clear ho6 hx6 hca6 hl6)
  have hz6:=HX6.out.size;have HFR6:Hid (RRows tb p ts bt bh bn bo w.heap.size (bts (keyL fl)) n hi (.func (.func g) #[] #[.pointer (some ⟨bl,0,none⟩)]) w6):=HFRW.out.only (Only.of (F:=fun _=>False) HX6.out) (fun _ _ q=>q);have HC6:Hid (∀W',Ext w6 W'->W'.cell? ⟨bh,0,none⟩=some (.string (bts (keyL fl)))/\W'.cell? ⟨bn,0,none⟩=some (.int .i64 n)/\W'.cell? ⟨bo,0,none⟩=some (.int .i64 hi)):=fun W' hW=>⟨(HFR6.out.rh.ext hW HFR6.out.rh.lt).cell 0,(HFR6.out.rn.ext hW HFR6.out.rn.lt).cell 0,(HFR6.out.ro.ext hW HFR6.out.ro.lt).cell 0⟩;obtain⟨u,hu⟩:∃u,Z4k (wayK way o) (bts (keyL fl))=u:=⟨_,rfl⟩;have cU:Hid (∀W,Calls Tryz.prog 73 #[.string (wayK way o),.string (bts (keyL fl))] W fun e w'=>e= .returned (.bool u)/\W=w'):=fun W=>by have h:=Y9b (wayK way o) (bts (keyL fl)) W;rw[hu]at h;exact h
  have HG2:Hid ((u&&(match (wayL way o)[n]? with | some x=>decide (x<=hi) | none=>false))=go):=by have h:=HGO.out;rw[hu,<-HNF.out]at h;exact h
  clear hu
  gi_cut [84]from 104 (fun s wx=>s= .bool (!go)/\Ext w6 wx)
  case first=>
   cases u with
   | false=>
     have HF:Hid (go=false):=by have h:=HG2.out;rw[Bool.false_and]at h;exact h.symm
     refine Z2d ?_;refine Z7y (S:=fun W=>W.cell? ⟨bh,0,none⟩=some (.string (bts (keyL fl)))) (by kernel_rfl) (by kernel_rfl) ((HC6.out _ (by exact Xt)).1) (fun hHeld=> ?_);refine' tkW 0 ?_;refine' tkW 1 ?_;refine stpW 2 (fun K hK=> ?_);go_simp
     (with_reducible refine(cU.out _).mono ?_)
     rintro e w7 ⟨rfl,rfl⟩
     (try dsimp only)
     (try go_simp)
     refine hK.out _ _ ((HC6.out _ (by exact Xt)).1) (fun hHeld=> ?_);clear hK K;refine ptW ?_;refine' tkW 3 ?_;refine' tkW 4 ?_;refine' tknW 5 ?_;refine' tknW 6 ?_;refine' tknW 7 ?_;refine' tknW 8 ?_;refine' tkW 9 ?_;refine' tkW 10 ?_;refine' tknW 11 ?_;refine' tknW 12 ?_;refine' tknW 13 ?_;refine' tknW 14 ?_;refine' tknW 15 ?_;refine' tknW 16 ?_;refine' tkW 17 ?_;refine Z3j (by kernel_rfl) ?_ _;dsimp only[Z8u]
     apply_assumption
     gi_meet
     exact⟨by rw[HF.out];rfl,by exact Xt⟩
   | true=>
     by_cases hlt:n<q6+1
     ·have e0:(wayL way o)[n]? =some ((wayL way o)[n]'(by have:=HL6.out;omega)):=aB _;obtain⟨y,hy⟩:∃y,(wayL way o)[n]? =some y:=⟨_,e0⟩;have HG3:Hid (decide (y<=hi)=go):=by have h:=HG2.out;rw[hy,Bool.true_and]at h;exact h
      have HCY:Hid (∀W',Ext w6 W'->W'.cell? ⟨sb,n,none⟩=some (.int .i64 y)):=fun W' hW=>(hW.cell (p:=⟨sb,n,none⟩) hs6).trans (HCA.out n y hy);clear e0 hy;have n1':decide ((q6:Int)+1<=(n:Int))=false:=aM;have n2':(0:Int)<=(n:Int):=by omega
      have n3':(n:Int)<(q6:Int)+1:=by omega
      by_cases h2:y<=hi
      ·have n4':decide (hi<y)=false:=aM;have HF:Hid (go=true):=by have h:=HG3.out;rw[decide_eq_true h2]at h;exact h.symm
       refine Z2d ?_;refine Z7y (S:=fun W=>W.cell? ⟨bh,0,none⟩=some (.string (bts (keyL fl)))/\W.cell? ⟨bn,0,none⟩=some (.int .i64 n)/\W.cell? ⟨bo,0,none⟩=some (.int .i64 hi)/\W.cell? ⟨sb,n,none⟩=some (.int .i64 y)) (by kernel_rfl) (by kernel_rfl) (⟨(HC6.out _ (by exact Xt)).1,(HC6.out _ (by exact Xt)).2.1,(HC6.out _ (by exact Xt)).2.2,HCY.out _ (by exact Xt)⟩) (fun hHeld=> ?_);refine' tkW 0 ?_;refine' tkW 1 ?_;refine stpW 2 (fun K hK=> ?_);go_simp
       (with_reducible refine(cU.out _).mono ?_)
       rintro e w7 ⟨rfl,rfl⟩
       (try dsimp only)
       (try go_simp)
       refine hK.out _ _ (⟨(HC6.out _ (by exact Xt)).1,(HC6.out _ (by exact Xt)).2.1,(HC6.out _ (by exact Xt)).2.2,HCY.out _ (by exact Xt)⟩) (fun hHeld=> ?_);clear hK K;refine ptW ?_;refine' tkW 3 ?_;refine' tkW 4 ?_;refine' tkW 5 ?_;refine' tkW 6 ?_;refine' tkW 7 ?_;refine' tkW 8 ?_;refine' tkW 9 ?_;refine' tkW 10 ?_;refine' tkW 11 ?_;refine' tkW 12 ?_;refine' tkW 13 ?_;refine' tkW 14 ?_;refine' tkW 15 ?_;refine' tkW 16 ?_;refine' tkW 17 ?_;refine Z3j (by kernel_rfl) ?_ _;dsimp only[Z8u]
       apply_assumption
       gi_meet
       exact⟨by rw[HF.out];rfl,by exact Xt⟩
      ·have n4':decide (hi<y)=true:=aN;have HF:Hid (go=false):=by have h:=HG3.out;rw[decide_eq_false h2]at h;exact h.symm
       refine Z2d ?_;refine Z7y (S:=fun W=>W.cell? ⟨bh,0,none⟩=some (.string (bts (keyL fl)))/\W.cell? ⟨bn,0,none⟩=some (.int .i64 n)/\W.cell? ⟨bo,0,none⟩=some (.int .i64 hi)/\W.cell? ⟨sb,n,none⟩=some (.int .i64 y)) (by kernel_rfl) (by kernel_rfl) (⟨(HC6.out _ (by exact Xt)).1,(HC6.out _ (by exact Xt)).2.1,(HC6.out _ (by exact Xt)).2.2,HCY.out _ (by exact Xt)⟩) (fun hHeld=> ?_);refine' tkW 0 ?_;refine' tkW 1 ?_;refine stpW 2 (fun K hK=> ?_);go_simp
       (with_reducible refine(cU.out _).mono ?_)
       rintro e w7 ⟨rfl,rfl⟩
       (try dsimp only)
       (try go_simp)
       refine hK.out _ _ (⟨(HC6.out _ (by exact Xt)).1,(HC6.out _ (by exact Xt)).2.1,(HC6.out _ (by exact Xt)).2.2,HCY.out _ (by exact Xt)⟩) (fun hHeld=> ?_);clear hK K;refine ptW ?_;refine' tkW 3 ?_;refine' tkW 4 ?_;refine' tkW 5 ?_;refine' tkW 6 ?_;refine' tkW 7 ?_;refine' tkW 8 ?_;refine' tkW 9 ?_;refine' tkW 10 ?_;refine' tkW 11 ?_;refine' tkW 12 ?_;refine' tkW 13 ?_;refine' tkW 14 ?_;refine' tkW 15 ?_;refine' tkW 16 ?_;refine' tkW 17 ?_;refine Z3j (by kernel_rfl) ?_ _;dsimp only[Z8u]
       apply_assumption
       gi_meet
       exact⟨by rw[HF.out];rfl,by exact Xt⟩
     ·have n1':decide ((q6:Int)+1<=(n:Int))=true:=aN;have HF:Hid (go=false):=by have h:=HG2.out;rw[List.getElem?_eq_none (by have:=HL6.out;omega)]at h;exact h.symm
      refine Z2d ?_;refine Z7y (S:=fun W=>W.cell? ⟨bh,0,none⟩=some (.string (bts (keyL fl)))/\W.cell? ⟨bn,0,none⟩=some (.int .i64 n)) (by kernel_rfl) (by kernel_rfl) (⟨(HC6.out _ (by exact Xt)).1,(HC6.out _ (by exact Xt)).2.1⟩) (fun hHeld=> ?_);refine' tkW 0 ?_;refine' tkW 1 ?_;refine stpW 2 (fun K hK=> ?_);go_simp
      (with_reducible refine(cU.out _).mono ?_)
      rintro e w7 ⟨rfl,rfl⟩
      (try dsimp only)
      (try go_simp)
      refine hK.out _ _ (⟨(HC6.out _ (by exact Xt)).1,(HC6.out _ (by exact Xt)).2.1⟩) (fun hHeld=> ?_);clear hK K;refine ptW ?_;refine' tkW 3 ?_;refine' tkW 4 ?_;refine' tkW 5 ?_;refine' tkW 6 ?_;refine' tkW 7 ?_;refine' tkW 8 ?_;refine' tkW 9 ?_;refine' tkW 10 ?_;refine' tknW 11 ?_;refine' tknW 12 ?_;refine' tknW 13 ?_;refine' tknW 14 ?_;refine' tknW 15 ?_;refine' tknW 16 ?_;refine' tkW 17 ?_;refine Z3j (by kernel_rfl) ?_ _;dsimp only[Z8u]
      apply_assumption
      gi_meet
      exact⟨by rw[HF.out];rfl,by exact Xt⟩
  case rest=>
  obtain⟨rfl,hbc⟩:=hcut;have HXC:=hD (HX6.out.trans hbc);have HC6C:Hid (wc.cell? ⟨sb,q6,none⟩=some (.int .i64 o.id)/\sb<wc.heap.size):=⟨(hbc.cell (p:=⟨sb,q6,none⟩) hs6).trans hc6,aE hs6 hbc.size⟩;clear hbc cU HG2 HC6 HFR6 HX6 HCA hc6 hs6 hz6;generalize wc=w6 at *;have hs6:=HC6C.out.2;have hz6:=HXC.out.size;have HFR6:Hid (RRows tb p ts bt bh bn bo w.heap.size (bts (keyL fl)) n hi (.func (.func g) #[] #[.pointer (some ⟨bl,0,none⟩)]) w6):=HFRW.out.only (Only.of (F:=fun _=>False) HXC.out) (fun _ _ q=>q);cases go with
  | false=>
    have hmk:=HST.out.1 rfl;obtain⟨s1,s2,s3,s4,s5⟩:=HSTAY.out _ HXC.out;simp only[Bool.not_false];gi_wp2_with fail;exact⟨F1,_,s1,s2,s3,rfl,Gc1,m,rfl,hg1,hpk,hpa,s4,.inl ⟨hmk,s5⟩⟩
  | true=>
    have hmk:=HST.out.2 rfl;simp only[Bool.not_true];have hnbt:¬F1 bt:=HRT.out _ (.inr (.inr (.inl rfl)));have hnsb:¬F1 sb:=fun q=>by have:=hF6 _ q;omega
    have hn6:¬F1 w6.heap.size:=fun q=>by have:=hF6 _ q;omega
    have HTT:Hid (TblAt w6 tb p ts F1):=HFR6.out.tbl HRT.out;have HIT6:=hD (HITW.out.ext HXC.out);have cG:Hid (∀W',Ext w6 W'->Calls Tryz.prog 60 #[tp tb,.int .i64 o.id] W' fun e w'=>e= .returned (.tuple #[.agg #[.int .i64 o.id,.int .i64 o.proc,.int .i64 o.object,.int .i64 o.kind,.int .i64 o.method,.int .i64 o.arg,.int .i64 o.second,.bool o.done,.int .i64 o.result,.int .i64 o.invoke,.int .i64 o.ret],.int .i64 0])/\∃F',TblAt w' tb p ts F'/\PagerAt w' p F' S/\Keeps F1 F' W' w'):=fun W' hW=>by have h1:=Z7v o.id W' (HTT.out.ext hW) (HIT6.out.1.ext hW) HTAB.out (hd 0 (by omega)) hid64;rw[hgl]at h1;exact h1
    have hq0:IntKind.i64.wrap (q6:Int)=q6:=by rw[IntKind.wrap_i64];omega
    have hq1:(q6:Int)<(q6:Int)+1:=by omega
    have hq2:(0:Int)<=(q6:Int):=by omega
    have hq3:((q6:Int)).toNat=q6:=by omega
    have HCS:Hid (∀W',Ext w6 W'->W'.cell? ⟨bt,0,none⟩=some (tp tb)/\W'.cell? ⟨sb,q6,none⟩=some (.int .i64 o.id)):=fun W' hW=>⟨(HFR6.out.rt.ext hW HFR6.out.rt.lt).cell 0,(hW.cell (p:=⟨sb,q6,none⟩) hs6).trans HC6C.out.1⟩;have HC7:Hid (∀(F7:Nat->Prop) (w7 W':World),Keeps F1 F7 w6 w7->Ext w7 W'->W'.cell? ⟨bt,0,none⟩=some (tp tb)/\W'.cell? ⟨sb,q6,none⟩=some (.int .i64 o.id)):=fun F7 w7 W' hk hx=>by have hr:=hk.only.row HFR6.out.rt hnbt;have hz:=hk.only.size;exact⟨(hr.ext hx hr.lt).cell 0,(hx.cell (p:=⟨sb,q6,none⟩) (by show sb<_;omega)).trans ((hk.only.cell hs6 hnsb).trans HC6C.out.1)⟩
    gi_upto_region 8 with fail
    gi_cut [14,15]from 104 (fun s14 s15 wx=>∃(ob:Nat) (F7:Nat->Prop),s14= .pointer (some ⟨ob,0,none⟩)/\s15= .int .i64 0/\Hid (Keeps F1 F7 w6 wx/\Row1 wx ob 32 o.cells/\PagerAt wx p F7 S))
    case first=>
     refine Z2d ?_;refine Z7y (S:=fun W=>W.cell? ⟨bt,0,none⟩=some (tp tb)/\W.cell? ⟨sb,q6,none⟩=some (.int .i64 o.id)) (by kernel_rfl) (by kernel_rfl) (HCS.out _ (by exact Xt)) (fun hHeld=> ?_);refine' tkW 0 ?_;refine' tkW 1 ?_;refine' tkW 2 ?_;refine' tkW 3 ?_;refine' tkW 4 ?_;refine' tkW 5 ?_;refine' tkW 6 ?_;refine Y1p (rs:= [7,11]) (by kernel_rfl) (by simp) ?_;refine AllReadyW.cons rfl (fun K hK=> ?_) (AllReadyW.cons rfl (fun K hK=> ?_) (AllReadyW.nil))
     ·go_simp
      (with_reducible refine(cG.out _ ?_).mono ?_)
      ·exact Xt
      rintro e w7 ⟨rfl,F7,ht7,hp7,hk7⟩;have HK7:Hid (Keeps F1 F7 w6 w7):=Keeps.trans (Keeps.of (by exact Xt)) hk7;have HP7:=hD hp7;clear ht7 hp7 hk7
      (try dsimp only)
      (try go_simp)
      refine hK.out _ _ (HC7.out _ _ _ HK7.out (Ext.refl _)) (fun hHeld=> ?_);clear hK K;refine ptW ?_;refine' tkW 8 ?_;refine' tkW 9 ?_;refine' tkW 10 ?_;refine stpW 11 (fun K hK=> ?_);go_simp
      skip
      refine hK.out _ _ (HC7.out _ _ _ HK7.out (by exact Xt)) (fun hHeld=> ?_);clear hK K;refine ptW ?_;refine stpW 12 (fun K hK=> ?_);go_simp;generalize hw8:World.alloc _ _=w8;have HZ:Hid (Keeps F1 F7 w6 w8/\Row1 w8 w7.heap.size 32 o.cells/\PagerAt w8 p F7 S):=by unfold Hid;rw[<-hw8];exact⟨HK7.out.ext (Ext.alloc _ _),Row1.made w7 _ o.cells,HP7.out.ext (Ext.alloc _ _)⟩
      clear hw8;refine hK.out _ _ (HC7.out _ _ _ HZ.out.1 (Ext.refl _)) (fun hHeld=> ?_);clear hK K;refine ptW ?_;refine' tkW 13 ?_;refine Z3j (by kernel_rfl) ?_ _;dsimp only[Z8u]
      apply_assumption
      gi_meet
      exact⟨_,F7,rfl,rfl,HZ⟩
     ·go_simp
      skip
      refine hK.out _ _ (HCS.out _ (by exact Xt)) (fun hHeld=> ?_);clear hK K;refine ptW ?_;refine stpW 7 (fun K hK=> ?_);go_simp
      (with_reducible refine(cG.out _ ?_).mono ?_)
      ·exact Xt
      rintro e w7 ⟨rfl,F7,ht7,hp7,hk7⟩;have HK7:Hid (Keeps F1 F7 w6 w7):=Keeps.trans (Keeps.of (by exact Xt)) hk7;have HND:Hid (¬F7 w6.heap.size):=hk7.out (by simp) hn6;have HRD:Hid (Row1 w7 w6.heap.size 32 opZero.cells):=hk7.only.row (Row1.made' (by simp) _ opZero.cells) hn6;have HP7:=hD hp7;clear ht7 hp7 hk7
      (try dsimp only)
      (try go_simp)
      refine hK.out _ _ (HC7.out _ _ _ HK7.out (Ext.refl _)) (fun hHeld=> ?_);clear hK K;refine ptW ?_;refine' tkW 8 ?_;refine' tkW 9 ?_;refine' tkW 10 ?_;obtain⟨a0,a1,a2,a3,a4,a5,a6,a7,a8,a9,a10⟩:=Z1l (show Row1 w7 w6.heap.size 32 [.int .i64 0,.int .i64 0,.int .i64 0,.int .i64 0,.int .i64 0,.int .i64 0,.int .i64 0,.bool false,.int .i64 0,.int .i64 0,.int .i64 0]from HRD.out);obtain⟨f0,f1,f2,f3,f4,f5,f6,f7,f8,f9,f10⟩:=Z3q HRD.out;refine stpW 12 (fun K hK=> ?_);go_simp;have HO8:=hD (Z8a w7 w6.heap.size (.int .i64 o.id) (.int .i64 o.proc) (.int .i64 o.object) (.int .i64 o.kind) (.int .i64 o.method) (.int .i64 o.arg) (.int .i64 o.second) (.bool o.done) (.int .i64 o.result) (.int .i64 o.invoke) (.int .i64 o.ret));have HR8:=hD (Z5o (show Row1 w7 w6.heap.size 32 [.int .i64 0,.int .i64 0,.int .i64 0,.int .i64 0,.int .i64 0,.int .i64 0,.int .i64 0,.bool false,.int .i64 0,.int .i64 0,.int .i64 0]from HRD.out) (.int .i64 o.id) (.int .i64 o.proc) (.int .i64 o.object) (.int .i64 o.kind) (.int .i64 o.method) (.int .i64 o.arg) (.int .i64 o.second) (.bool o.done) (.int .i64 o.result) (.int .i64 o.invoke) (.int .i64 o.ret));generalize hw8:World.setCell _ _ _=w8 at HO8 HR8 ⊢;have HZ:Hid (Keeps F1 F7 w6 w8/\Row1 w8 w6.heap.size 32 o.cells/\PagerAt w8 p F7 S):=⟨⟨HK7.out.only.trans HO8.out (fun i q=> .inr (by omega)),HK7.out.new⟩,HR8.out,HP7.out.only HO8.out (fun i q e=>HND.out (e▸q))⟩;clear hw8 a0 a1 a2 a3 a4 a5 a6 a7 a8 a9 a10 f0 f1 f2 f3 f4 f5 f6 f7 f8 f9 f10;refine hK.out _ _ (HC7.out _ _ _ HZ.out.1 (Ext.refl _)) (fun hHeld=> ?_);clear hK K;refine ptW ?_;refine' tkW 13 ?_;refine Z3j (by kernel_rfl) ?_ _;dsimp only[Z8u]
      apply_assumption
      gi_meet
      exact⟨_,F7,rfl,rfl,HZ⟩
    case rest=>
    obtain⟨ob,F7,rfl,rfl,hzz⟩:=hcut;have HZ:=hD hzz.out;clear hzz cG HCS HC7 HTT HIT6;generalize wc=w8 at *;have HFR8:Hid (RRows tb p ts bt bh bn bo w.heap.size (bts (keyL fl)) n hi (.func (.func g) #[] #[.pointer (some ⟨bl,0,none⟩)]) w8):=HFR6.out.only HZ.out.1.only (fun i q=>HRT.out i q);have y0:w8.cell? ⟨w.heap.size,0,none⟩=some (.func (.func g) #[] #[.pointer (some ⟨bl,0,none⟩)]):=HFR8.out.ry.cell 0;obtain⟨o0,o1,o2,o3,o4,o5,o6,o7,o8,o9,o10⟩:=At11.row HZ.out.2.1;have hJ8:J (all.take m) Gc1 w8:=hJ _ _ _ _ (HSTAY.out _ HXC.out).2.2.2.2 (fun i q=>aE (HDDW.out.2 i (.inl q)).1 hz6) (HZ.out.1.only.mono (fun i q=> .inl (fun r=>(HDDW.out.2 i (.inl r)).2 q)));have cY:=hY (all.take m) o w8 Gc1 hJ8 (by rw[HTK.out.1];omega);rw[HTK.out.2]at cY;clear hJ8
    gi_upto_if 103 with ((first | refine⟨trivial,?_⟩ | refine⟨trivial,trivial,?_⟩);gi_at_fn g;refine(CallsIn.inRound l' (callsIn_wide.2 cY)).mono ?_;clear cY;rintro e w9 ⟨b,rfl,hp9⟩;have HP9:=hD hp9;clear hp9)
    obtain⟨G9,j1,j2,k9,l9⟩:=HP9.out.ex;obtain⟨F8,r1,r2,r3,r4,r5⟩:=V5i hw HXC.out HITW.out HDDW.out hg1 HZ.out.1 HZ.out.2.2 HFR8.out k9 l9;have HFIN:Hid (ItT p (ts way) way S (fun b=>b=fb\/b=kb) F8 w9/\Dis F8 (fun i=>G9 i\/RT tb ts bt bh bn bo w.heap.size i) w9/\Keeps (Un F1 (fun i=>Gc1 i\/RT tb ts bt bh bn bo w.heap.size i)) (Un F8 (fun i=>G9 i\/RT tb ts bt bh bn bo w.heap.size i)) W w9/\(∀i,RT tb ts bt bh bn bo w.heap.size i->¬G9 i)/\RRows tb p ts bt bh bn bo w.heap.size (bts (keyL fl)) n hi (.func (.func g) #[] #[.pointer (some ⟨bl,0,none⟩)]) w9/\(b=true->J (all.take (m+1)) G9 w9)/\(b=false->Jx (all.take (m+1)) G9 w9)):=⟨r1,r2,r3,r4,r5,j1,j2⟩;clear r1 r2 r3 r4 r5 j1 j2 k9 l9 HP9;cases b with
    | true=>
      gi_wp2_with fail;obtain⟨r1,r2,r3,r4,r5,j1,_⟩:=HFIN.out;exact⟨F8,_,r1,r2,r3,G9,rfl,r4,by rw[aA,HPL.out,aK];exact HPX.out,by rw[aA,HPL.out,aK];exact hmk,by rw[aA,HPL.out,aK];exact hml,r5,by rw[aA,HPL.out,aK];exact j1 trivial⟩
    | false=>
      gi_wp2_with fail;obtain⟨r1,r2,r3,r4,r5,_,j2⟩:=HFIN.out;exact⟨F8,_,r1,r2,r3,rfl,G9,m+1,rfl,r4,hmk,hml,r5,.inr (j2 trivial)⟩
 case done=>
  rintro D xs W F1 G1 jH rfl ⟨Gc1,rfl,hg1,hpre,hpk,hpa,hfr,hfj⟩ hit hdd hn1' hn2' hk hK;have HFIN:=HE.out D W F1 Gc1 _ jH hg1 hpk hpa hfr (.inl ⟨by
   have:=hf.le;rw[HFO.out,List.length_map]at hpk ⊢;omega,hfj⟩) hit hdd hn1' hn2' hk
  have HK:=hD hK;have HFN:=hD HFIN;clear hk hit hdd hK hfr hfj HFIN;subst hA0;gi_wp2;exact⟨by simp,.inl ⟨_,_,rfl,run_takeDeferred HK.out,_,results_none rfl _ _ _,⟨_,rfl⟩,HFN.out⟩⟩
 case stop=>
  rintro D c pre W F1 G1 jH hpre ⟨rfl,Gc1,j,rfl,hg1,hjk,hja,hfr,hfj⟩ hit hdd hn1' hn2' hk hK;have HFIN:=HE.out D W F1 Gc1 _ jH hg1 hjk hja hfr hfj hit hdd hn1' hn2' hk;have HK:=hD hK;have HFN:=hD HFIN;clear hk hit hdd hK hfr hfj HFIN;subst hA0;gi_wp2;exact⟨by simp,.inl ⟨_,_,rfl,run_takeDeferred HK.out,_,results_none rfl _ _ _,⟨_,rfl⟩,HFN.out⟩⟩
end
section
open Go.RowKit
def V4k(A:Option Addr)(n c:Nat)(pv:Option Addr)(way lo hi:Int)(w:World)(e:Ending)(w':World):Prop:=
 ∃bf ba bt bw bo,e= .returned (.func (.func 67) #[] #[.pointer (some ⟨bf,0,none⟩),.pointer (some ⟨ba,0,none⟩),.pointer (some ⟨bt,0,none⟩),.pointer (some ⟨bw,0,none⟩),.pointer (some ⟨bo,0,none⟩)])/\Ext w w'/\(w.heap.size<=bt/\w.heap.size<=bw/\w.heap.size<=bf/\w.heap.size<=ba/\w.heap.size<=bo)/\
  Row1 w' bt 26 [.pointer pv]/\Row1 w' bw 3 [.int .i64 way]/\Row1 w' bf 23 [.slice A n c]/\Row1 w' ba 3 [.int .i64 lo]/\Row1 w' bo 3 [.int .i64 hi]
theorem V0h{A:Option Addr}{n c:Nat}(pv:Option Addr)(way lo hi:Int)(w:World):
  Calls Tryz.prog 22 #[.pointer pv,.int .i64 way,.slice A n c,.int .i64 lo,.int .i64 hi] w (V4k A n c pv way lo hi w):=by
 have HR:Hid (∀W',W'=((((w.alloc (.cells #[.pointer pv] 26)).alloc (.cells #[.int .i64 way] 3)).alloc (.cells #[.slice A n c] 23)).alloc (.cells #[.int .i64 lo] 3)).alloc (.cells #[.int .i64 hi] 3)->V4k A n c pv way lo hi w (.returned (.func (.func 67) #[] #[.pointer (some ⟨w.heap.size+2,0,none⟩),.pointer (some ⟨w.heap.size+3,0,none⟩),.pointer (some ⟨w.heap.size,0,none⟩),.pointer (some ⟨w.heap.size+1,0,none⟩),.pointer (some ⟨w.heap.size+4,0,none⟩)])) W'):=by
  rintro W' rfl;exact⟨w.heap.size+2,w.heap.size+3,w.heap.size,w.heap.size+1,w.heap.size+4,rfl,((((Ext.alloc _ _).trans (Ext.alloc _ _)).trans (Ext.alloc _ _)).trans (Ext.alloc _ _)).trans (Ext.alloc _ _),⟨by omega,by omega,by omega,by omega,by omega⟩,
   ((((Row1.made w _ [.pointer pv]).alloc _).alloc _).alloc _).alloc _,(((Row1.made' (by simp) _ [.int .i64 way]).alloc _).alloc _).alloc _,((Row1.made' (by simp) _ [.slice A n c]).alloc _).alloc _,(Row1.made' (by simp) _ [.int .i64 lo]).alloc _,Row1.made' (by simp) _ [.int .i64 hi]⟩
 go_enter Tryz.func22,Tryz.ntmps22;go_wp2_with fail;go_ret;exact HR.out _ rfl
end
end Go.Proofs.YtmiolpfanlpfnaaGreat
