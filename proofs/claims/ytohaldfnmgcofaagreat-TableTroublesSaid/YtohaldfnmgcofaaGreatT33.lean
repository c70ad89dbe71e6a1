/- The example of layer 13 holds: the walk. Conditions: none. -/
import Derived.Test.YtohaldfnmgcofaaGreatT32
set_option maxRecDepth 100000
set_option maxHeartbeats 4000000
set_option linter.unusedSimpArgs false
set_option linter.unusedVariables false
namespace Go.Proofs.YtohaldfnmgcofaaGreat
open Go.RowKit
theorem V5u{w:World}{b:Nat}(l:List OpD)(h:Row1 w b 73 (l.flatMap OpD.cells))(hl:l.length<=100):Sl w 11 ROp (.slice (some ⟨b,0,none⟩) l.length l.length) l:=
 OwnL.sl (base:=0) Y0a (fun _=>rfl) (OwnL.ofRow (spare:= []) (by rw[List.append_nil];exact h) (Nat.zero_le _) (aF _) (by omega) (by rw[List.append_nil];exact(Z3i OpD.cells 11 Y0a l).symm▸rfl) Y0a)
theorem V5t{w:World}{b:Nat}(h:Row1 w b 3 [.int .i64 3]):Sl w 1 (fun x cs=>cs=encN x) (.slice (some ⟨b,0,none⟩) 1 1) [3]:=
 OwnL.sl (base:=0) (enc:=encN) Z0j (fun _=>rfl) (OwnL.ofRow (spare:= []) (l:= [(3:Int)]) (enc:=encN) h (Nat.zero_le _) (aF _) (by decide) rfl Z0j)
theorem X3j(w:World):cQ 27 #[] w fun e w'=>e= .returned (.bool true)/\Ext w w':=by
 have cB:=Y5h w;go_enter Tryz.func27,Tryz.ntmps27;go_upto_region 2 with (go_at_call 23;(with_reducible refine cB.mono ?_);clear cB;rintro e w1 ⟨d,p,tb,ts,F,rfl,ht,hb,hz⟩;have HT:=hD ht;have HB:=hD hb;clear ht hb hz);obtain⟨oa,hoa⟩:∃oa,opAa=oa:=⟨_,rfl⟩;obtain⟨ob,hob⟩:∃ob,opAb=ob:=⟨_,rfl⟩;go_upto_region 4 with fail;generalize hW4:World.alloc (World.alloc w1 _) _=W4;have HX4:Hid (Ext w1 W4):=by unfold Hid;rw[<-hW4];exact(Ext.alloc _ _).trans (Ext.alloc _ _)
 have HRA:Hid (Row1 W4 w1.heap.size 73 oa.cells):=by unfold Hid;rw[<-hW4,<-hoa];exact(Row1.made w1 _ opAa.cells).alloc _
 have HRB:Hid (Row1 W4 (w1.heap.size+1) 73 ob.cells):=by unfold Hid;rw[<-hW4,<-hob];exact Row1.made' (by simp) _ opAb.cells
 have HOA:Hid (Z1p oa=0/\Z1p ob=0/\oa.id≠ob.id/\∀(S:StoreD) (Ts:Nat->TrD),Tab S Ts (fun _=> [ob,oa])->Finds Ts 1 (bts (keyL [3])) [ob,oa] [ob,oa] 2):=by unfold Hid;rw[<-hoa,<-hob];exact⟨U1a,U0z,by decide,fun S Ts h=>X3i h⟩
 clear hoa hob hW4;obtain⟨F0,hF0⟩:∃F0:Nat->Prop,(fun i=>F i/\i<w1.heap.size)=F0:=⟨_,rfl⟩;have HF0:Hid (∀i,F0 i->i<w1.heap.size/\w.heap.size<=i):=fun i q=>by rw[<-hF0]at q;exact⟨q.2,HB.out.new i q.1⟩
 have HT4:Hid (TblAt W4 tb p ts F0):=by unfold Hid;rw[<-hF0];exact TblAt.ext (F:=fun i=>F i/\i<w1.heap.size) ⟨HT.out.row,HT.out.tree,fun q=>HT.out.out q.1,fun j hj q=>HT.out.outs j hj q.1⟩ HX4.out
 have HP4:Hid (PagerAt W4 p F0 (Z1j 1800 860)):=by unfold Hid;rw[<-hF0];exact PagerAt.ext (F:=fun i=>F i/\i<w1.heap.size) HB.out.pag.shrink HX4.out
 clear hF0;have HXW:Hid (Ext w W4):=HB.out.ext.trans HX4.out;clear HT HB;generalize w1.heap.size=ba at *;have HS:Hid (∀(F':Nat->Prop) (W W':World),Keeps F0 F' W4 W->Ext W W'->(W'.cell? ⟨ba,0,none⟩=some (.int .i64 oa.id)/\W'.cell? ⟨ba,1,none⟩=some (.int .i64 oa.proc)/\W'.cell? ⟨ba,2,none⟩=some (.int .i64 oa.object)/\W'.cell? ⟨ba,3,none⟩=some (.int .i64 oa.kind)/\W'.cell? ⟨ba,4,none⟩=some (.int .i64 oa.method)/\W'.cell? ⟨ba,5,none⟩=some (.int .i64 oa.arg)/\W'.cell? ⟨ba,6,none⟩=some (.int .i64 oa.second)/\W'.cell? ⟨ba,7,none⟩=some (.bool oa.done)/\W'.cell? ⟨ba,8,none⟩=some (.int .i64 oa.result)/\W'.cell? ⟨ba,9,none⟩=some (.int .i64 oa.invoke)/\W'.cell? ⟨ba,10,none⟩=some (.int .i64 oa.ret))/\(W'.cell? ⟨(ba+1),0,none⟩=some (.int .i64 ob.id)/\W'.cell? ⟨(ba+1),1,none⟩=some (.int .i64 ob.proc)/\W'.cell? ⟨(ba+1),2,none⟩=some (.int .i64 ob.object)/\W'.cell? ⟨(ba+1),3,none⟩=some (.int .i64 ob.kind)/\W'.cell? ⟨(ba+1),4,none⟩=some (.int .i64 ob.method)/\W'.cell? ⟨(ba+1),5,none⟩=some (.int .i64 ob.arg)/\W'.cell? ⟨(ba+1),6,none⟩=some (.int .i64 ob.second)/\W'.cell? ⟨(ba+1),7,none⟩=some (.bool ob.done)/\W'.cell? ⟨(ba+1),8,none⟩=some (.int .i64 ob.result)/\W'.cell? ⟨(ba+1),9,none⟩=some (.int .i64 ob.invoke)/\W'.cell? ⟨(ba+1),10,none⟩=some (.int .i64 ob.ret))):=fun F' W W' hk hx=>by have r1:=hk.only.row HRA.out (fun q=>by have:=(HF0.out _ q).1;omega);have r2:=hk.only.row HRB.out (fun q=>by have:=(HF0.out _ q).1;omega);exact⟨At11.row (r1.ext hx r1.lt),At11.row (r2.ext hx r2.lt)⟩
 have HFIN:Hid (∀(F':Nat->Prop) (W W':World),Keeps F0 F' W4 W->Ext W W'->Ext w W'):=fun F' W W' hk hx=>(hk.fresh HXW.out (fun i q=>(HF0.out i q).2)).1.trans hx;have cP1:Hid (∀W,Ext W4 W->cQ 69 #[tp tb,.agg #[.int .i64 oa.id,.int .i64 oa.proc,.int .i64 oa.object,.int .i64 oa.kind,.int .i64 oa.method,.int .i64 oa.arg,.int .i64 oa.second,.bool oa.done,.int .i64 oa.result,.int .i64 oa.invoke,.int .i64 oa.ret]] W fun e w'=>e= .returned (.int .i64 0)/\∃S1 Ts1 F1,PutDone tb p ts oa [] 0 (Z1j 1800 860) F0 W4 w' S1 Ts1 F1):=fun W hW=>by have hr:Z0z (Z1j 1800 860)=936:=Y1f 1800 860;refine(X0c oa 0 W (HT4.out.ext hW) (HP4.out.ext hW) (X9z HP4.out.full) HOA.out.1 (fun x hx=>by cases hx) (fun i _=>aF _) (by omega) (by omega)).mono ?_;rintro e w' ⟨rfl,S1,Ts1,F1,h⟩;exact⟨rfl,S1,Ts1,F1,h.at_,h.pag,(Keeps.of hW).trans h.keep,h.tab,h.dep,h.room⟩
 have cP2:Hid (∀(S1:StoreD) (Ts1:Nat->TrD) (F1:Nat->Prop) (w5 W:World),PutDone tb p ts oa [] 0 (Z1j 1800 860) F0 W4 w5 S1 Ts1 F1->Ext w5 W->cQ 69 #[tp tb,.agg #[.int .i64 ob.id,.int .i64 ob.proc,.int .i64 ob.object,.int .i64 ob.kind,.int .i64 ob.method,.int .i64 ob.arg,.int .i64 ob.second,.bool ob.done,.int .i64 ob.result,.int .i64 ob.invoke,.int .i64 ob.ret]] W fun e w'=>e= .returned (.int .i64 0)/\
   ∃S2 Ts2 F2,TblAt w' tb p ts F2/\PagerAt w' p F2 S2/\Tab S2 Ts2 (fun _=> [ob,oa])/\(∀i,i<5->depT (Ts2 i)<=31)/\Keeps F0 F2 W4 w'/\∀i,F2 i->i<w'.heap.size):=fun S1 Ts1 F1 w5 W h hW=>by
  have hr:Z0z (Z1j 1800 860)=936:=Y1f 1800 860;have hr1:=h.room;refine(X0c ob 1 W (h.at_.ext hW) (h.pag.ext hW) h.tab HOA.out.2.1 (fun x hx=>by rw[List.mem_singleton]at hx;subst hx;exact HOA.out.2.2.1) h.dep (by omega) (by omega)).mono ?_;rintro e w' ⟨rfl,S2,Ts2,F2,k⟩;refine⟨rfl,S2,Ts2,fun i=>F2 i/\i<w'.heap.size,⟨k.at_.row,k.at_.tree,fun q=>k.at_.out q.1,fun j hj q=>k.at_.outs j hj q.1⟩,k.pag.shrink,k.tab,fun i hi=>by have:=k.dep i hi;omega,(h.keep.trans ((Keeps.of hW).trans k.keep)).shrink,fun i q=>q.2⟩
 have cF:Hid (∀(S2:StoreD) (Ts2:Nat->TrD) (F2:Nat->Prop) (w6 W:World) (B:Nat),TblAt w6 tb p ts F2->PagerAt w6 p F2 S2->Tab S2 Ts2 (fun _=> [ob,oa])->(∀i,i<5->depT (Ts2 i)<=31)->Ext w6 W->Row1 W B 3 [.int .i64 3]->
   cQ 74 #[tp tb,.int .i64 1,.slice (some ⟨B,0,none⟩) 1 1,.int .i64 9] W fun e w'=>∃A c F3,e= .returned (.slice A 2 c)/\OwnL w' 0 73 11 OpD.cells (.slice A 2 c) [ob,oa]/\Keeps F2 F3 W w'):=fun S2 Ts2 F2 w6 W B h1 h2 h3 h4 hx hr=>by
  refine(X2z 1 9 [3] W (h1.ext hx) (h2.ext hx) h3 h4 (by omega) (V5t hr) (fun x q=>by rw[List.mem_singleton]at q;subst q;unfold In64;omega) (by simp) (HOA.out.2.2.2 S2 Ts2 h3) (by simp) (by omega)).mono ?_;rintro e w' ⟨A',c',j,F3,rfl,ho,hj1,hj2,hj3,_,_,hk⟩;obtain rfl:j=2:=by omega
  exact⟨A',c',F3,rfl,ho,hk⟩
 have cO:Hid (∀(V U:Value) (W:World),Sl W 11 ROp V [ob,oa]->Sl W 11 ROp U [ob,oa]->cQ 25 #[V,U] W fun e w'=>e= .returned (.bool true)/\Ext W w'):=fun V U W h1 h2=>V6x V U _ W h1 h2;have HSO:Hid (∀(W:World) (V:Value),OwnL W 0 73 11 OpD.cells V [ob,oa]->Sl W 11 ROp V [ob,oa]):=fun W V h=>h.sl Y0a (fun _=>rfl);have HSB:Hid (∀(W:World) (B:Nat),Row1 W B 73 [.int .i64 ob.id,.int .i64 ob.proc,.int .i64 ob.object,.int .i64 ob.kind,.int .i64 ob.method,.int .i64 ob.arg,.int .i64 ob.second,.bool ob.done,.int .i64 ob.result,.int .i64 ob.invoke,.int .i64 ob.ret,.int .i64 oa.id,.int .i64 oa.proc,.int .i64 oa.object,.int .i64 oa.kind,.int .i64 oa.method,.int .i64 oa.arg,.int .i64 oa.second,.bool oa.done,.int .i64 oa.result,.int .i64 oa.invoke,.int .i64 oa.ret]->Sl W 11 ROp (.slice (some ⟨B,0,none⟩) 2 2) [ob,oa]):=fun W B h=>V5u [ob,oa] h (by simp);clear HX4 HRA HRB HOA HT4 HP4 HXW;refine wp_region_held_drew (S:=fun W=>(W.cell? ⟨ba,0,none⟩=some (.int .i64 oa.id)/\W.cell? ⟨ba,1,none⟩=some (.int .i64 oa.proc)/\W.cell? ⟨ba,2,none⟩=some (.int .i64 oa.object)/\W.cell? ⟨ba,3,none⟩=some (.int .i64 oa.kind)/\W.cell? ⟨ba,4,none⟩=some (.int .i64 oa.method)/\W.cell? ⟨ba,5,none⟩=some (.int .i64 oa.arg)/\W.cell? ⟨ba,6,none⟩=some (.int .i64 oa.second)/\W.cell? ⟨ba,7,none⟩=some (.bool oa.done)/\W.cell? ⟨ba,8,none⟩=some (.int .i64 oa.result)/\W.cell? ⟨ba,9,none⟩=some (.int .i64 oa.invoke)/\W.cell? ⟨ba,10,none⟩=some (.int .i64 oa.ret))/\(W.cell? ⟨(ba+1),0,none⟩=some (.int .i64 ob.id)/\W.cell? ⟨(ba+1),1,none⟩=some (.int .i64 ob.proc)/\W.cell? ⟨(ba+1),2,none⟩=some (.int .i64 ob.object)/\W.cell? ⟨(ba+1),3,none⟩=some (.int .i64 ob.kind)/\W.cell? ⟨(ba+1),4,none⟩=some (.int .i64 ob.method)/\W.cell? ⟨(ba+1),5,none⟩=some (.int .i64 ob.arg)/\W.cell? ⟨(ba+1),6,none⟩=some (.int .i64 ob.second)/\W.cell? ⟨(ba+1),7,none⟩=some (.bool ob.done)/\W.cell? ⟨(ba+1),8,none⟩=some (.int .i64 ob.result)/\W.cell? ⟨(ba+1),9,none⟩=some (.int .i64 ob.invoke)/\W.cell? ⟨(ba+1),10,none⟩=some (.int .i64 ob.ret))) (by kernel_rfl) (HS.out _ _ _ Keeps.refl (by exact Xt)) (fun hHeld=> ?_);refine' tk 0 ?_;refine' tk 1 ?_;refine stp 2 (fun K hK=> ?_);go_simp
 (with_reducible refine(cP1.out _ ?_).mono ?_)
 ·exact Xt
 rintro e w5 ⟨rfl,S1,Ts1,F1,hd1⟩;have HD1:=hD hd1;clear hd1
 (try dsimp only)
 (try go_simp)
 refine hK.out _ _ (HS.out _ _ _ HD1.out.keep (Ext.refl _)) (fun hHeld=> ?_);clear hK K;refine pt ?_;refine' tk 3 ?_;refine' tk 4 ?_;refine' tk 5 ?_;refine' tk 6 ?_;refine stp 7 (fun K hK=> ?_);go_simp
 (with_reducible refine(cP2.out _ _ _ _ _ HD1.out ?_).mono ?_)
 ·exact Xt
 rintro e w6 ⟨rfl,S2,Ts2,F2,h1,h2,h3,h4,h5,h6⟩;have HD2:Hid (TblAt w6 tb p ts F2/\PagerAt w6 p F2 S2/\Tab S2 Ts2 (fun _=> [ob,oa])/\(∀i,i<5->depT (Ts2 i)<=31)):=⟨h1,h2,h3,h4⟩;have HK6:=hD h5;have HF6:=hD h6;clear h1 h2 h3 h4 h5 h6
 (try dsimp only)
 (try go_simp)
 refine hK.out _ _ (HS.out _ _ _ HK6.out (Ext.refl _)) (fun hHeld=> ?_);clear hK K;refine pt ?_;refine' tk 8 ?_;refine' tk 9 ?_;refine' tk 10 ?_;refine' tk 11 ?_;refine' tk 14 ?_;refine' tk 15 ?_;refine wpAnyH_ready (rs:= [12,16]) (by kernel_rfl) (by simp) ?_;refine AllReadyH.cons rfl (fun K hK=> ?_) (AllReadyH.cons rfl (fun K hK=> ?_) (AllReadyH.nil))
 ·go_simp
  generalize hw7:World.alloc _ _=w7;have HX7:Hid (Ext w6 w7/\Row1 w7 w6.heap.size 3 [.int .i64 3]):=by unfold Hid;rw[<-hw7];exact⟨Ext.alloc _ _,Row1.made w6 _ [.int .i64 3]⟩
  clear hw7;refine hK.out _ _ (HS.out _ _ _ HK6.out HX7.out.1) (fun hHeld=> ?_);clear hK K;refine pt ?_;refine wpAnyH_ready (rs:= [13,16]) (by kernel_rfl) (by simp) ?_;refine AllReadyH.cons rfl (fun K hK=> ?_) (AllReadyH.cons rfl (fun K hK=> ?_) (AllReadyH.nil))
  ·go_simp
   (with_reducible refine(cF.out _ _ _ _ _ _ HD2.out.1 HD2.out.2.1 HD2.out.2.2.1 HD2.out.2.2.2 HX7.out.1 HX7.out.2).mono ?_)
   rintro e w8 ⟨A8,c8,F8,rfl,ho8,hk8⟩;have HO8:=hD ho8;have HK8:Hid (Keeps F0 F8 W4 w8):=(HK6.out.ext HX7.out.1).trans hk8;clear ho8 hk8
   (try dsimp only)
   (try go_simp)
   refine hK.out _ _ (HS.out _ _ _ HK8.out (Ext.refl _)) (fun hHeld=> ?_);clear hK K;refine pt ?_;refine stp 16 (fun K hK=> ?_);go_simp;generalize hw9:World.alloc _ _=w9;have HX9:Hid (Ext w8 w9/\Row1 w9 w8.heap.size 73 [.int .i64 ob.id,.int .i64 ob.proc,.int .i64 ob.object,.int .i64 ob.kind,.int .i64 ob.method,.int .i64 ob.arg,.int .i64 ob.second,.bool ob.done,.int .i64 ob.result,.int .i64 ob.invoke,.int .i64 ob.ret,.int .i64 oa.id,.int .i64 oa.proc,.int .i64 oa.object,.int .i64 oa.kind,.int .i64 oa.method,.int .i64 oa.arg,.int .i64 oa.second,.bool oa.done,.int .i64 oa.result,.int .i64 oa.invoke,.int .i64 oa.ret]):=by unfold Hid;rw[<-hw9];exact⟨Ext.alloc _ _,Row1.made w8 _ _⟩
   clear hw9;refine hK.out _ _ (HS.out _ _ _ HK8.out HX9.out.1) (fun hHeld=> ?_);clear hK K;refine pt ?_;refine stp 17 (fun K hK=> ?_);go_simp
   (with_reducible refine(cO.out _ _ _ (HSO.out _ _ (HO8.out.ext HX9.out.1)) (HSB.out _ _ HX9.out.2)).mono ?_)
   rintro e w10 ⟨rfl,hx10⟩;have HE:Hid (Keeps F0 F8 W4 w8/\Ext w8 w10):=⟨HK8.out,HX9.out.1.trans hx10⟩;clear hx10
   (try dsimp only)
   (try go_simp)
   refine hK.out _ _ (HS.out _ _ _ HE.out.1 HE.out.2) (fun hHeld=> ?_);clear hK K;refine pt ?_;refine' tk 18 ?_;refine' tk 19 ?_;refine wpAnyH_done (by kernel_rfl) ?_ _;go_wp2_with fail;go_ret;exact⟨rfl,HFIN.out _ _ _ HE.out.1 HE.out.2⟩
  ·go_simp
   generalize hw8:World.alloc _ _=w8;have HX8:Hid (Ext w7 w8/\Row1 w8 w7.heap.size 73 [.int .i64 ob.id,.int .i64 ob.proc,.int .i64 ob.object,.int .i64 ob.kind,.int .i64 ob.method,.int .i64 ob.arg,.int .i64 ob.second,.bool ob.done,.int .i64 ob.result,.int .i64 ob.invoke,.int .i64 ob.ret,.int .i64 oa.id,.int .i64 oa.proc,.int .i64 oa.object,.int .i64 oa.kind,.int .i64 oa.method,.int .i64 oa.arg,.int .i64 oa.second,.bool oa.done,.int .i64 oa.result,.int .i64 oa.invoke,.int .i64 oa.ret]):=by unfold Hid;rw[<-hw8];exact⟨Ext.alloc _ _,Row1.made w7 _ _⟩
   have HG8:Hid (Ext w6 w8/\Row1 w8 w6.heap.size 3 [.int .i64 3]):=⟨HX7.out.1.trans HX8.out.1,HX7.out.2.ext HX8.out.1 HX7.out.2.lt⟩;have HN8:Hid (¬F2 w7.heap.size):=fun q=>by have:=HF6.out _ q;have:=HX7.out.1.size;omega
   clear hw8;refine hK.out _ _ (HS.out _ _ _ HK6.out HG8.out.1) (fun hHeld=> ?_);clear hK K;refine pt ?_;refine stp 13 (fun K hK=> ?_);go_simp
   (with_reducible refine(cF.out _ _ _ _ _ _ HD2.out.1 HD2.out.2.1 HD2.out.2.2.1 HD2.out.2.2.2 HG8.out.1 HG8.out.2).mono ?_)
   rintro e w9 ⟨A9,c9,F9,rfl,ho9,hk9⟩;have HO9:=hD ho9;have HR9:Hid (Row1 w9 w7.heap.size 73 [.int .i64 ob.id,.int .i64 ob.proc,.int .i64 ob.object,.int .i64 ob.kind,.int .i64 ob.method,.int .i64 ob.arg,.int .i64 ob.second,.bool ob.done,.int .i64 ob.result,.int .i64 ob.invoke,.int .i64 ob.ret,.int .i64 oa.id,.int .i64 oa.proc,.int .i64 oa.object,.int .i64 oa.kind,.int .i64 oa.method,.int .i64 oa.arg,.int .i64 oa.second,.bool oa.done,.int .i64 oa.result,.int .i64 oa.invoke,.int .i64 oa.ret]):=hk9.only.row HX8.out.2 HN8.out;have HK9:Hid (Keeps F0 F9 W4 w9):=(HK6.out.ext HG8.out.1).trans hk9;clear ho9 hk9
   (try dsimp only)
   (try go_simp)
   refine hK.out _ _ (HS.out _ _ _ HK9.out (Ext.refl _)) (fun hHeld=> ?_);clear hK K;refine pt ?_;refine stp 17 (fun K hK=> ?_);go_simp
   (with_reducible refine(cO.out _ _ _ (HSO.out _ _ HO9.out) (HSB.out _ _ HR9.out)).mono ?_)
   rintro e w10 ⟨rfl,hx10⟩;have HE:Hid (Keeps F0 F9 W4 w9/\Ext w9 w10):=⟨HK9.out,hx10⟩;clear hx10
   (try dsimp only)
   (try go_simp)
   refine hK.out _ _ (HS.out _ _ _ HE.out.1 HE.out.2) (fun hHeld=> ?_);clear hK K;refine pt ?_;refine' tk 18 ?_;refine' tk 19 ?_;refine wpAnyH_done (by kernel_rfl) ?_ _;go_wp2_with fail;go_ret;exact⟨rfl,HFIN.out _ _ _ HE.out.1 HE.out.2⟩
 ·go_simp
  generalize hw7:World.alloc _ _=w7;have HX7:Hid (Ext w6 w7/\Row1 w7 w6.heap.size 73 [.int .i64 ob.id,.int .i64 ob.proc,.int .i64 ob.object,.int .i64 ob.kind,.int .i64 ob.method,.int .i64 ob.arg,.int .i64 ob.second,.bool ob.done,.int .i64 ob.result,.int .i64 ob.invoke,.int .i64 ob.ret,.int .i64 oa.id,.int .i64 oa.proc,.int .i64 oa.object,.int .i64 oa.kind,.int .i64 oa.method,.int .i64 oa.arg,.int .i64 oa.second,.bool oa.done,.int .i64 oa.result,.int .i64 oa.invoke,.int .i64 oa.ret]):=by unfold Hid;rw[<-hw7];exact⟨Ext.alloc _ _,Row1.made w6 _ _⟩
  have HN7:Hid (¬F2 w6.heap.size):=fun q=>by have:=HF6.out _ q;omega
  clear hw7;refine hK.out _ _ (HS.out _ _ _ HK6.out HX7.out.1) (fun hHeld=> ?_);clear hK K;refine pt ?_;refine stp 12 (fun K hK=> ?_);go_simp;generalize hw8:World.alloc _ _=w8;have HX8:Hid (Ext w6 w8/\Row1 w8 w7.heap.size 3 [.int .i64 3]):=by unfold Hid;rw[<-hw8];exact⟨HX7.out.1.trans (Ext.alloc _ _),Row1.made w7 _ [.int .i64 3]⟩
  have HR8:Hid (Row1 w8 w6.heap.size 73 [.int .i64 ob.id,.int .i64 ob.proc,.int .i64 ob.object,.int .i64 ob.kind,.int .i64 ob.method,.int .i64 ob.arg,.int .i64 ob.second,.bool ob.done,.int .i64 ob.result,.int .i64 ob.invoke,.int .i64 ob.ret,.int .i64 oa.id,.int .i64 oa.proc,.int .i64 oa.object,.int .i64 oa.kind,.int .i64 oa.method,.int .i64 oa.arg,.int .i64 oa.second,.bool oa.done,.int .i64 oa.result,.int .i64 oa.invoke,.int .i64 oa.ret]):=by unfold Hid;rw[<-hw8];exact HX7.out.2.alloc _
  clear hw8;refine hK.out _ _ (HS.out _ _ _ HK6.out HX8.out.1) (fun hHeld=> ?_);clear hK K;refine pt ?_;refine stp 13 (fun K hK=> ?_);go_simp
  (with_reducible refine(cF.out _ _ _ _ _ _ HD2.out.1 HD2.out.2.1 HD2.out.2.2.1 HD2.out.2.2.2 HX8.out.1 HX8.out.2).mono ?_)
  rintro e w9 ⟨A9,c9,F9,rfl,ho9,hk9⟩;have HO9:=hD ho9;have HR9:Hid (Row1 w9 w6.heap.size 73 [.int .i64 ob.id,.int .i64 ob.proc,.int .i64 ob.object,.int .i64 ob.kind,.int .i64 ob.method,.int .i64 ob.arg,.int .i64 ob.second,.bool ob.done,.int .i64 ob.result,.int .i64 ob.invoke,.int .i64 ob.ret,.int .i64 oa.id,.int .i64 oa.proc,.int .i64 oa.object,.int .i64 oa.kind,.int .i64 oa.method,.int .i64 oa.arg,.int .i64 oa.second,.bool oa.done,.int .i64 oa.result,.int .i64 oa.invoke,.int .i64 oa.ret]):=hk9.only.row HR8.out HN7.out;have HK9:Hid (Keeps F0 F9 W4 w9):=(HK6.out.ext HX8.out.1).trans hk9;clear ho9 hk9
  (try dsimp only)
  (try go_simp)
  refine hK.out _ _ (HS.out _ _ _ HK9.out (Ext.refl _)) (fun hHeld=> ?_);clear hK K;refine pt ?_;refine stp 17 (fun K hK=> ?_);go_simp
  (with_reducible refine(cO.out _ _ _ (HSO.out _ _ HO9.out) (HSB.out _ _ HR9.out)).mono ?_)
  rintro e w10 ⟨rfl,hx10⟩;have HE:Hid (Keeps F0 F9 W4 w9/\Ext w9 w10):=⟨HK9.out,hx10⟩;clear hx10
  (try dsimp only)
  (try go_simp)
  refine hK.out _ _ (HS.out _ _ _ HE.out.1 HE.out.2) (fun hHeld=> ?_);clear hK K;refine pt ?_;refine' tk 18 ?_;refine' tk 19 ?_;refine wpAnyH_done (by kernel_rfl) ?_ _;go_wp2_with fail;go_ret;exact⟨rfl,HFIN.out _ _ _ HE.out.1 HE.out.2⟩
end Go.Proofs.YtohaldfnmgcofaaGreat
