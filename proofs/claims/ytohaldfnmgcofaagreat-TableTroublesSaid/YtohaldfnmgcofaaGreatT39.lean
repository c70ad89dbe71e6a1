/- annalistlaw13.does: the walk. Conditions: a table behind fewer than 40 acts, any act but Get. -/
import Derived.Test.YtohaldfnmgcofaaGreatT38
set_option maxRecDepth 100000
set_option maxHeartbeats 8000000
set_option linter.unusedSimpArgs false
set_option linter.unusedVariables false
namespace Go.Proofs.YtohaldfnmgcofaaGreat
open Go.RowKit
theorem X8j{tb p bl:Nat}{ts:Nat->Nat}{l:List OpD}{t:Nat}{F:Nat->Prop}(kind:Int)(o:OpD)(w:World)(h:DoZ tb p bl ts l l t F w)(hk:kind≠2)(hid:In64 o.id)(hres:In64 o.result)(ht:t<40):
  cQ 24 #[tp tb,tp p,tp bl,actV kind o] w fun e w'=>e= .returned (.bool true)/\∃F':Nat->Prop,DoZ tb p bl ts (actL kind o l) (actL kind o l) (t+1) F' w'/\Keeps (Un F (fun i=>i=bl)) (Un F' (fun i=>i=bl)) w w':=by
 obtain⟨W1,hW1⟩:∃W1,w.alloc (.cells #[.int .i64 kind,.int .i64 o.id,.int .i64 o.proc,.int .i64 o.object,.int .i64 o.kind,.int .i64 o.method,.int .i64 o.arg,.int .i64 o.second,.bool o.done,.int .i64 o.result,.int .i64 o.invoke,.int .i64 o.ret] 75)=W1:=⟨_,rfl⟩;have HX1:Hid (Ext w W1):=by unfold Hid;rw[<-hW1];exact Ext.alloc _ _
 have HRA:Hid (Row1 W1 w.heap.size 75 (Y9a kind o)):=by unfold Hid;rw[<-hW1];exact Row1.made w _ _
 have HD1:Hid (DoZ tb p bl ts l l t F W1):=h.ext HX1.out;have hn:l.length<=40:=by have:=h.len;omega
 obtain⟨A,n,c,hr,hown,hno⟩:=HD1.out.list;have HRL:=hD hr;have hs:Sl W1 11 ROp (.slice A n c) l:=hown.sl (fun _=>rfl) (fun _=>rfl);have HS:=hD hs;obtain⟨x,hx⟩:∃x,(getL l o.id).getD opZero=x:=⟨_,rfl⟩;obtain⟨ok,hok⟩:∃ok,(getL l o.id).isSome=ok:=⟨_,rfl⟩;have cG:Hid (∀W,Ext W1 W->cQ 66 #[.slice A n c,.int .i64 o.id] W fun e w'=>e= .returned (.tuple #[.agg #[.int .i64 x.id,.int .i64 x.proc,.int .i64 x.object,.int .i64 x.kind,.int .i64 x.method,.int .i64 x.arg,.int .i64 x.second,.bool x.done,.int .i64 x.result,.int .i64 x.invoke,.int .i64 x.ret],.bool ok])/\Ext W w'):=fun W hW=>by have h1:=X7b _ l o.id W (hs.ext hW);rw[hx,hok]at h1;exact h1
 have HC:Hid (∀W,Ext W1 W->W.cell? ⟨bl,0,none⟩=some (.slice A n c)/\W.cell? ⟨w.heap.size,1,none⟩=some (.int .i64 o.id)):=fun W hW=>⟨(HRL.out.ext hW HRL.out.lt).cell 0,(HRA.out.ext hW HRA.out.lt).cell 1⟩;have HBL:Hid (bl<w.heap.size):=by obtain⟨_,_,_,q,_,_⟩:=h.list;exact q.lt
 have HOK:=hD hok;have HN:=hD hn;clear h hr hown hno hs hok hn hx;show cQ 24 #[tp tb,tp p,tp bl,.agg #[.int .i64 kind,.int .i64 o.id,.int .i64 o.proc,.int .i64 o.object,.int .i64 o.kind,.int .i64 o.method,.int .i64 o.arg,.int .i64 o.second,.bool o.done,.int .i64 o.result,.int .i64 o.invoke,.int .i64 o.ret]] w _;go_enter Tryz.func24,Tryz.ntmps24;go_upto_region 1 with fail;clear hW1
 go_cut [9,10] (fun a b wx=>b= .bool ok/\Ext W1 wx)
 case first=>
  refine wp_region_held_drew (S:=fun W=>W.cell? ⟨bl,0,none⟩=some (.slice A n c)/\W.cell? ⟨w.heap.size,1,none⟩=some (.int .i64 o.id)) (by kernel_rfl) (HC.out _ (by exact Xt)) (fun hHeld=> ?_);refine' tk 0 ?_;refine' tk 1 ?_;refine' tk 2 ?_;refine' tk 3 ?_;refine' tk 4 ?_;refine' tk 5 ?_;refine wpAnyH_ready (rs:= [6,10]) (by kernel_rfl) (by simp) ?_;refine AllReadyH.cons rfl (fun K hK=> ?_) (AllReadyH.cons rfl (fun K hK=> ?_) (AllReadyH.nil))
  ·go_simp
   (with_reducible refine(cG.out _ ?_).mono ?_)
   ·exact Xt
   rintro e w7 ⟨rfl,hb7⟩;have HB7:Hid (Ext W1 w7):=Ext.trans (by exact Xt) hb7;clear hb7
   (try dsimp only)
   (try go_simp)
   refine hK.out _ _ (HC.out _ HB7.out) (fun hHeld=> ?_);clear hK K;refine pt ?_;refine' tk 7 ?_;refine' tk 8 ?_;refine' tk 9 ?_;refine stp 10 (fun K hK=> ?_);go_simp
   skip
   refine hK.out _ _ (HC.out _ (HB7.out.trans (by exact Xt))) (fun hHeld=> ?_);clear hK K;refine pt ?_;refine stp 11 (fun K hK=> ?_);go_simp;generalize hw8:World.alloc _ _=w8;have HB8:Hid (Ext W1 w8):=by unfold Hid;rw[<-hw8];exact HB7.out.trans (Ext.alloc _ _)
   clear hw8;refine hK.out _ _ (HC.out _ HB8.out) (fun hHeld=> ?_);clear hK K;refine pt ?_;refine' tk 12 ?_;refine wpAnyH_done (by kernel_rfl) ?_ _;go_wp2_with fail
   go_meet
   exact⟨rfl,HB8.out⟩
  ·go_simp
   skip
   refine hK.out _ _ (HC.out _ (by exact Xt)) (fun hHeld=> ?_);clear hK K;refine pt ?_;refine stp 6 (fun K hK=> ?_);go_simp
   (with_reducible refine(cG.out _ ?_).mono ?_)
   ·exact Xt
   rintro e w7 ⟨rfl,hb7⟩;have HRD:Hid (Row1 w7 W1.heap.size 73 opZero.cells):=by
    unfold Hid;refine Row1.ext ?_ hb7 ?_
    ·exact Row1.made' (by first | rfl | simp) _ opZero.cells
    ·simp
   have HB7:Hid (Ext W1 w7):=Ext.trans (by exact Xt) hb7;clear hb7
   (try dsimp only)
   (try go_simp)
   refine hK.out _ _ (HC.out _ HB7.out) (fun hHeld=> ?_);clear hK K;refine pt ?_;refine' tk 7 ?_;refine' tk 8 ?_;refine' tk 9 ?_;obtain⟨a0,a1,a2,a3,a4,a5,a6,a7,a8,a9,a10⟩:=Z1t (show Row1 w7 W1.heap.size 73 [.int .i64 0,.int .i64 0,.int .i64 0,.int .i64 0,.int .i64 0,.int .i64 0,.int .i64 0,.bool false,.int .i64 0,.int .i64 0,.int .i64 0]from HRD.out);obtain⟨f0,f1,f2,f3,f4,f5,f6,f7,f8,f9,f10⟩:=Z4r HRD.out;refine stp 11 (fun K hK=> ?_);go_simp;have HB8:=hD (Y4u HB7.out (aF _) (.int .i64 x.id) (.int .i64 x.proc) (.int .i64 x.object) (.int .i64 x.kind) (.int .i64 x.method) (.int .i64 x.arg) (.int .i64 x.second) (.bool x.done) (.int .i64 x.result) (.int .i64 x.invoke) (.int .i64 x.ret));generalize hw8:World.setCell _ _ _=w8 at HB8 ⊢;clear hw8 a0 a1 a2 a3 a4 a5 a6 a7 a8 a9 a10 f0 f1 f2 f3 f4 f5 f6 f7 f8 f9 f10;refine hK.out _ _ (HC.out _ HB8.out) (fun hHeld=> ?_);clear hK K;refine pt ?_;refine' tk 12 ?_;refine wpAnyH_done (by kernel_rfl) ?_ _;go_wp2_with fail
   go_meet
   exact⟨rfl,HB8.out⟩
 case rest=>
 obtain⟨rfl,hbc⟩:=hcut;have HBC:=hD hbc;have c1:wc.cell? ⟨w.heap.size,0,none⟩=some (.int .i64 kind):=(HRA.out.ext hbc HRA.out.lt).cell 0;have HCA:Hid (∀W,Ext W1 W->(W.cell? ⟨w.heap.size,1,none⟩=some (.int .i64 o.id)/\W.cell? ⟨w.heap.size,2,none⟩=some (.int .i64 o.proc)/\W.cell? ⟨w.heap.size,3,none⟩=some (.int .i64 o.object)/\W.cell? ⟨w.heap.size,4,none⟩=some (.int .i64 o.kind)/\W.cell? ⟨w.heap.size,5,none⟩=some (.int .i64 o.method)/\W.cell? ⟨w.heap.size,6,none⟩=some (.int .i64 o.arg)/\W.cell? ⟨w.heap.size,7,none⟩=some (.int .i64 o.second)/\W.cell? ⟨w.heap.size,8,none⟩=some (.bool o.done)/\W.cell? ⟨w.heap.size,9,none⟩=some (.int .i64 o.result)/\W.cell? ⟨w.heap.size,10,none⟩=some (.int .i64 o.invoke)/\W.cell? ⟨w.heap.size,11,none⟩=some (.int .i64 o.ret))):=fun W hW=>ActAt.row (HRA.out.ext hW HRA.out.lt);have HLT:Hid (t<=40/\Y2l (t+1)<=936):=⟨by omega,by have:=Y1a (show t+1<=40 by omega);have:=Y7q.1;omega⟩;have HKE:Hid (∀w5 w6 F',Ext W1 w5->∀W,Only (fun i=>i=bl) w5 W->Keeps (Un F (fun i=>i=bl)) (Un F' (fun i=>i=bl)) W w6->Keeps (Un F (fun i=>i=bl)) (Un F' (fun i=>i=bl)) w w6):=fun w5 w6 F' hx W ho hk=>by have k1:Keeps (Un F (fun i=>i=bl)) (Un F (fun i=>i=bl)) w W:=⟨(Only.of (HX1.out.trans hx)).trans' (ho.mono (fun i q=> .inl (.inr q))),fun i q=> .inl q⟩;exact k1.trans hk
 have HID:=hD hid;have HRE:=hD hres;clear hbc hid hres ht;by_cases hk0:kind=0
 ·subst hk0;have HACT:Hid (actL 0 o l=if Z1p o=0 then wiO l o else l):=if_pos rfl;have cCk:Hid (∀W,cQ 67 #[.agg #[.int .i64 o.id,.int .i64 o.proc,.int .i64 o.object,.int .i64 o.kind,.int .i64 o.method,.int .i64 o.arg,.int .i64 o.second,.bool o.done,.int .i64 o.result,.int .i64 o.invoke,.int .i64 o.ret]] W fun e w'=>e= .returned (.int .i64 (Z1p o))/\Ext W w'):=fun W=>by rw[V7a];exact Y9w o W
  have a0:=HCA.out wc HBC.out;obtain⟨b0,b1,b2,b3,b4,b5,b6,b7,b8,b9,b10⟩:=a0;by_cases hc:Z1p o=0
  ·rw[hc]at cCk;have HCK:=hD hc;have cWi:Hid (∀W,Ext W1 W->cQ 68 #[.slice A n c,.agg #[.int .i64 o.id,.int .i64 o.proc,.int .i64 o.object,.int .i64 o.kind,.int .i64 o.method,.int .i64 o.arg,.int .i64 o.second,.bool o.done,.int .i64 o.result,.int .i64 o.invoke,.int .i64 o.ret]] W fun e w'=>(∃v,e= .returned v/\OwnL w' W.heap.size 73 11 OpD.cells v (wiO l o))/\Ext W w'):=fun W hW=>X2c _ l o W (HS.out.ext hW) (by have:=HN.out;omega);clear hc;go_upto_region 6 with (go_at_call 67;(with_reducible refine(cCk.out _).mono ?_);clear cCk;rintro e w2 ⟨rfl,hb2⟩;have HB2:Hid (Ext W1 w2):=HBC.out.trans hb2;clear hb2);clear b0 b1 b2 b3 b4 b5 b6 b7 b8 b9 b10 c1;have g0:(World.drew w2).cell? ⟨bl,0,none⟩=some (.slice A n c):=(HC.out _ (HB2.out.trans (Below.drew (Ext.refl _)))).1;refine wp_region_held_drew (S:=fun W=>(W.cell? ⟨w.heap.size,1,none⟩=some (.int .i64 o.id)/\W.cell? ⟨w.heap.size,2,none⟩=some (.int .i64 o.proc)/\W.cell? ⟨w.heap.size,3,none⟩=some (.int .i64 o.object)/\W.cell? ⟨w.heap.size,4,none⟩=some (.int .i64 o.kind)/\W.cell? ⟨w.heap.size,5,none⟩=some (.int .i64 o.method)/\W.cell? ⟨w.heap.size,6,none⟩=some (.int .i64 o.arg)/\W.cell? ⟨w.heap.size,7,none⟩=some (.int .i64 o.second)/\W.cell? ⟨w.heap.size,8,none⟩=some (.bool o.done)/\W.cell? ⟨w.heap.size,9,none⟩=some (.int .i64 o.result)/\W.cell? ⟨w.heap.size,10,none⟩=some (.int .i64 o.invoke)/\W.cell? ⟨w.heap.size,11,none⟩=some (.int .i64 o.ret))) (by kernel_rfl) (HCA.out _ (HB2.out.trans (by exact Xt))) (fun hHeld=> ?_);refine' tk 0 ?_;refine' tk 1 ?_;refine' tk 2 ?_;refine' tk 4 ?_;refine' tk 5 ?_;refine stp 3 (fun K hK=> ?_);go_simp
   skip
   refine hK.out _ _ (HCA.out _ (HB2.out.trans (by exact Xt))) (fun hHeld=> ?_);clear hK K;refine pt ?_;refine stp 6 (fun K hK=> ?_);go_simp
   (with_reducible refine(cWi.out _ ?_).mono ?_)
   ·exact HB2.out.trans (by exact Xt)
   rintro e w4 ⟨⟨v4,rfl,hv4⟩,hb4⟩;obtain⟨A4,c4,hv⟩:=hv4.form;subst hv;have HV4:Hid (OwnL w4 W1.heap.size 73 11 OpD.cells (.slice A4 (wiO l o).length c4) (wiO l o)):=hv4.lower (by have:=HB2.out.size;simpa using this);have HB4:Hid (Ext W1 w4):=HB2.out.trans (Ext.trans (by exact Xt) hb4);have vf4:w4.frozen? ⟨bl,0,none⟩=false:=(HRL.out.ext HB4.out HRL.out.lt).soft 0;have vc4:w4.cell? ⟨bl,0,none⟩=some (.slice A n c):=(HC.out _ HB4.out).1;clear hb4 hv4
   (try dsimp only)
   (try go_simp)
   refine hK.out _ _ (HCA.out _ HB4.out) (fun hHeld=> ?_);clear hK K;refine pt ?_;refine' tk 7 ?_;refine stp 8 (fun K hK=> ?_);go_simp;have hset:=HD1.out.set HB4.out (aF _) HV4.out;generalize hw5:World.setCell _ _ _=w5 at hset ⊢;have HD5:=hD hset;clear hw5 hset;refine hK.out _ _ (ActAt.row (HD5.out.2.row (HRA.out.ext HB4.out HRA.out.lt) (fun e=>by have:=HBL.out;omega))) (fun hHeld=> ?_);clear hK K;refine pt ?_;refine wpAnyH_done (by kernel_rfl) ?_ _;have hd5:=HD5.out;obtain⟨C,S,Ts,hti,hco,hpg⟩:=hd5.1.ex;have cD:=X1x o w5 hd5.1.at_ hpg HCK.out hti.tab (fun i hi=>hti.dep HLT.out.1 i hi) (hti.enough HLT.out.2);obtain⟨b0,b1,b2,b3,b4,b5,b6,b7,b8,b9,b10⟩:=ActAt.row (hd5.2.row (HRA.out.ext HB4.out HRA.out.lt) (fun e=>by have:=HBL.out;omega));have HFIN:Hid (∀(S':StoreD) (Ts':Nat->TrD) (F':Nat->Prop) (w6:World),PutY S Ts l o S' Ts'->TblAt w6 tb p ts F'->PagerAt w6 p F' S'->Keeps F F' w5 w6->∃F':Nat->Prop,DoZ tb p bl ts (wiO l o) (wiO l o) (t+1) F' w6/\Keeps (Un F (fun i=>i=bl)) (Un F' (fun i=>i=bl)) w w6):=fun S' Ts' F' w6 q1 q2 q3 q4=>by obtain⟨F'',r1,r2⟩:=HD5.out.1.after (hti.put HCK.out q1) (hco.more (Nat.le_succ t)) q2 q3 q4 (by have:=U0b l o;have:=HD5.out.1.len;omega);exact⟨F'',r1,HKE.out _ _ _ HB4.out _ HD5.out.2 r2⟩
   clear hd5 hti hpg hco;go_wp2_with (go_at_call 69;(with_reducible refine cD.mono ?_);clear cD;rintro e w6 ⟨rfl,S',Ts',q1,F',q2,q3,q4⟩;have HF:=hD (HFIN.out S' Ts' F' w6 q1 q2 q3 q4);clear q1 q2 q3 q4);go_ret;rw[HACT.out,if_pos HCK.out];exact⟨rfl,HF.out⟩
  ·have HCK:=hD hc;obtain⟨k,hkk⟩:∃k,Z1p o=k:=⟨_,rfl⟩;have hd0:=HD1.out.ext HBC.out;have cP:Hid (∀W,Ext wc W->cQ 69 #[tp tb,.agg #[.int .i64 o.id,.int .i64 o.proc,.int .i64 o.object,.int .i64 o.kind,.int .i64 o.method,.int .i64 o.arg,.int .i64 o.second,.bool o.done,.int .i64 o.result,.int .i64 o.invoke,.int .i64 o.ret]] W fun e w'=>e= .returned (.int .i64 k)/\Ext W w'):=fun W hW=>by have h1:=X6q o W (hd0.at_.ext hW) hc HRE.out;rw[hkk]at h1;exact h1
   rw[hkk]at cCk hc;have q1:(k==0)=false:=by simpa using hc
   have q2:decide (k=0)=false:=decide_eq_false hc;clear hkk hd0;go_wp2_with (first
    | (go_at_call 67;(with_reducible refine(cCk.out _).mono ?_);clear cCk;rintro e w2 ⟨rfl,hb2⟩;have HB2:=hD hb2;clear b0 b1 b2 b3 b4 b5 b6 b7 b8 b9 b10;obtain⟨b0,b1,b2,b3,b4,b5,b6,b7,b8,b9,b10⟩:=HCA.out w2 (HBC.out.trans hb2);clear hb2)
    | (go_at_call 69;(with_reducible refine(cP.out _ HB2.out).mono ?_);clear cP;rintro e w3 ⟨rfl,hb3⟩;have HB3:=hD hb3;clear hb3))
   go_ret;have hx3:=HBC.out.trans (HB2.out.trans HB3.out);have h3:=HD1.out.ext hx3;obtain⟨C,S,Ts,hti,hco,hpg⟩:=h3.ex;obtain⟨F'',r1,r2⟩:=h3.after (hti.more (Nat.le_succ t)) (hco.more (Nat.le_succ t)) h3.at_ hpg Keeps.refl (Nat.le_succ_of_le h3.len);rw[HACT.out,if_neg HCK.out];exact⟨rfl,F'',r1,HKE.out _ _ _ hx3 _ Only.refl r2⟩
 ·have q1:(kind==0)=false:=by simpa using hk0
  have q2:decide (kind=0)=false:=decide_eq_false hk0;by_cases hk1:kind=1
  ·subst hk1;have HACT:Hid (actL 1 o l=delO l o.id):=rfl;have cWo:Hid (∀W,Ext W1 W->cQ 70 #[.slice A n c,.int .i64 o.id] W fun e w'=>(∃v,e= .returned v/\OwnL w' W.heap.size 73 11 OpD.cells v (delO l o.id))/\Ext W w'):=fun W hW=>Y5l _ l o.id W (HS.out.ext hW) (by have:=HN.out;omega);have HCB:Hid (∀W,Ext wc W->W.cell? ⟨bl,0,none⟩=some (.slice A n c)/\W.cell? ⟨w.heap.size,1,none⟩=some (.int .i64 o.id)):=fun W hW=>HC.out W (HBC.out.trans hW);go_upto_region 9 with fail;have g0:(World.drew wc).cell? ⟨bl,0,none⟩=some (.slice A n c):=(HCB.out _ (Below.drew (Ext.refl _))).1;refine wp_region_held_drew (S:=fun W=>W.cell? ⟨w.heap.size,1,none⟩=some (.int .i64 o.id)) (by kernel_rfl) ((HCB.out _ (by exact Xt)).2) (fun hHeld=> ?_);refine' tk 0 ?_;refine' tk 1 ?_;refine' tk 2 ?_;refine' tk 4 ?_;refine' tk 5 ?_;refine' tk 6 ?_;refine stp 3 (fun K hK=> ?_);go_simp
   skip
   refine hK.out _ _ ((HCB.out _ (by exact Xt)).2) (fun hHeld=> ?_);clear hK K;refine pt ?_;refine stp 7 (fun K hK=> ?_);go_simp
   (with_reducible refine(cWo.out _ ?_).mono ?_)
   ·exact HBC.out.trans (by exact Xt)
   rintro e w4 ⟨⟨v4,rfl,hv4⟩,hb4⟩;obtain⟨A4,c4,hv⟩:=hv4.form;subst hv;have HV4:Hid (OwnL w4 W1.heap.size 73 11 OpD.cells (.slice A4 (delO l o.id).length c4) (delO l o.id)):=hv4.lower (by have:=HBC.out.size;simpa using this);have HB4:Hid (Ext W1 w4):=HBC.out.trans (Ext.trans (by exact Xt) hb4);have vf4:w4.frozen? ⟨bl,0,none⟩=false:=(HRL.out.ext HB4.out HRL.out.lt).soft 0;have vc4:w4.cell? ⟨bl,0,none⟩=some (.slice A n c):=(HC.out _ HB4.out).1;clear hb4 hv4
   (try dsimp only)
   (try go_simp)
   refine hK.out _ _ ((HC.out _ HB4.out).2) (fun hHeld=> ?_);clear hK K;refine pt ?_;refine' tk 8 ?_;refine stp 9 (fun K hK=> ?_);go_simp;have hset:=HD1.out.set HB4.out (aF _) HV4.out;generalize hw5:World.setCell _ _ _=w5 at hset ⊢;have HD5:=hD hset;clear hw5 hset;refine hK.out _ _ ((HD5.out.2.row (HRA.out.ext HB4.out HRA.out.lt) (fun e=>by have:=HBL.out;omega)).cell 1) (fun hHeld=> ?_);clear hK K;refine pt ?_;refine wpAnyH_done (by kernel_rfl) ?_ _;have hd5:=HD5.out;obtain⟨C,S,Ts,hti,hco,hpg⟩:=hd5.1.ex;have cD:=Y3i o.id w5 hd5.1.at_ hpg hti.tab (fun i hi=>hti.dep HLT.out.1 i hi) HID.out;have hE:delE l o.id=if ok=true then 0 else 6:=by unfold delE;rw[HOK.out]
   rw[hE]at cD;have c6:w5.cell? ⟨w.heap.size,1,none⟩=some (.int .i64 o.id):=(hd5.2.row (HRA.out.ext HB4.out HRA.out.lt) (fun e=>by have:=HBL.out;omega)).cell 1;have HFIN:Hid (∀(S':StoreD) (Ts':Nat->TrD) (F':Nat->Prop) (w6:World),DelY S Ts l o.id S' Ts'->TblAt w6 tb p ts F'->PagerAt w6 p F' S'->Keeps F F' w5 w6->∃F':Nat->Prop,DoZ tb p bl ts (delO l o.id) (delO l o.id) (t+1) F' w6/\Keeps (Un F (fun i=>i=bl)) (Un F' (fun i=>i=bl)) w w6):=fun S' Ts' F' w6 q1 q2 q3 q4=>by obtain⟨F'',r1,r2⟩:=HD5.out.1.after ((hti.del q1).more (Nat.le_succ t)) (hco.more (Nat.le_succ t)) q2 q3 q4 (by have:=X5r l o.id;have:=HD5.out.1.len;omega);exact⟨F'',r1,HKE.out _ _ _ HB4.out _ HD5.out.2 r2⟩
   clear hd5 hti hpg hE hco q1 q2 hk0;cases ok with
   | true=>
     rw[if_pos rfl]at cD;go_wp2_with (go_at_call 71;(with_reducible refine cD.mono ?_);clear cD;rintro e w6 ⟨rfl,S',Ts',q1,F',q2,q3,q4⟩;have HF:=hD (HFIN.out S' Ts' F' w6 q1 q2 q3 q4);clear q1 q2 q3 q4);go_ret;rw[HACT.out];exact⟨rfl,HF.out⟩
   | false=>
     rw[if_neg (by decide)]at cD;go_wp2_with (go_at_call 71;(with_reducible refine cD.mono ?_);clear cD;rintro e w6 ⟨rfl,S',Ts',q1,F',q2,q3,q4⟩;have HF:=hD (HFIN.out S' Ts' F' w6 q1 q2 q3 q4);clear q1 q2 q3 q4);go_ret;rw[HACT.out];exact⟨rfl,HF.out⟩
  ·have HACT:Hid (actL kind o l=l):=by unfold Hid actL;rw[if_neg hk0,if_neg hk1]
   have q3:(kind==1)=false:=by simpa using hk1
   have q4:decide (kind=1)=false:=decide_eq_false hk1;have q5:(kind==2)=false:=by simpa using hk
   have q6:decide (kind=2)=false:=decide_eq_false hk;have h3:=HD1.out.ext HBC.out;obtain⟨C,S,Ts,hti,hco,hpg⟩:=h3.ex;have hcm:=hti.com hco HLT.out.1;have cC:=Y4b wc hpg hcm.1 hcm.2.1 hcm.2.2.1 hcm.2.2.2.1;have HFIN:Hid (∀(S':StoreD) (F':Nat->Prop) (w6:World),Cmtd S S'->PagerAt w6 p F' S'->Keeps F F' wc w6->∃F':Nat->Prop,DoZ tb p bl ts l l (t+1) F' w6/\Keeps (Un F (fun i=>i=bl)) (Un F' (fun i=>i=bl)) w w6):=fun S' F' w6 q1 q3 q4=>by have h3:=HD1.out.ext HBC.out;obtain⟨F'',r1,r2⟩:=h3.after ((hti.cmtd q1 hpg.pages q3.full).more (Nat.le_succ t)) (hcm.2.2.2.2 S' q1) (h3.at_.keep q4) q3 q4 (Nat.le_succ_of_le h3.len);exact⟨F'',r1,HKE.out _ _ _ HBC.out _ Only.refl r2⟩
   clear h3 hti hco hpg hcm;go_wp2_with (go_at_call 64;(with_reducible refine cC.mono ?_);clear cC;rintro e w6 ⟨rfl,S',F',y1,y2,y3⟩;have HF:=hD (HFIN.out S' F' w6 y1 y2 y3);clear y1 y2 y3);go_ret;rw[HACT.out];exact⟨rfl,HF.out⟩
end Go.Proofs.YtohaldfnmgcofaaGreat
