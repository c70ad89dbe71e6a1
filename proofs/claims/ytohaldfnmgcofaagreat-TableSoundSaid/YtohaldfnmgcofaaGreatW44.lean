/- The acts of a statement of layer 13, one behind the other; what a table finds behind them. Conditions: acts that can be read. -/
import Derived.Test.YtohaldfnmgcofaaGreatW43
import Derived.Test.YtohaldfnmgcofaaGreatW36
set_option maxRecDepth 100000
set_option maxHeartbeats 8000000
set_option linter.unusedSimpArgs false
set_option linter.unusedVariables false
namespace Go.Proofs.YtohaldfnmgcofaaGreat
open Go.RowKit
def RAct(a:Int×OpD)(cs:List Value):Prop:=cs=Y2z a.1 a.2
structure LawI (w0:World) (tb p bl:Nat) (ts:Nat->Nat) (l:List OpD) (t:Nat) (F:Nat->Prop) (w:World):Prop where
 doz:DoZ tb p bl ts l l t F w
 new:∀i,F i->w0.heap.size<=i
 ext:Ext w0 w
 bl:w0.heap.size<=bl
section
variable {w0 w w':World} {tb p bl:Nat} {ts:Nat->Nat} {l:List OpD} {t:Nat} {F:Nat->Prop}
theorem LawI.len(h:LawI w0 tb p bl ts l t F w):l.length<=t:=h.doz.len
theorem LawI.act(kind:Int)(o:OpD)(h:LawI w0 tb p bl ts l t F w)(hk:kind≠2)(hid:In64 o.id)(hres:In64 o.result)(ht:t<40):
  Calls Tryz.prog 24 #[.pointer (some ⟨tb,0,none⟩),.pointer (some ⟨p,0,none⟩),.pointer (some ⟨bl,0,none⟩),actV kind o] w fun e w'=>e= .returned (.bool true)/\∃F',LawI w0 tb p bl ts (actL kind o l) (t+1) F' w':=by
 refine(X8a kind o w h.doz hk hid hres ht).mono ?_;rintro e w' ⟨rfl,F',h1,h2⟩;have h3:=h2.fresh h.ext (fun i q=>q.elim (h.new i) (fun e=>e▸h.bl));exact⟨rfl,F',h1,fun i q=>h3.2 i (.inl q),h3.1,h.bl⟩
theorem LawI.start(ht:TblAt w tb p ts F)(hb:Begun w0 p F 1800 860 w):LawI w0 tb p w.heap.size ts [] 0 (fun i=>F i/\i<w.heap.size) (w.alloc (.cells #[.slice none 0 0] 69)):=by
 have hx:Ext w (w.alloc (.cells #[.slice none 0 0] 69)):=Ext.alloc _ _;have hp:=hb.pag;refine⟨⟨⟨Z1j 1800 860,Z1j 1800 860,fun _=> .no,⟨X9o hp.full (by decide),Soil.start _ _,fun b hb hu=>by unfold Z1j at hu;rw[Z9k]at hu;have:=of_decide_eq_true hu;omega⟩,⟨⟨rfl,rfl⟩,rfl,rfl,by decide,rfl⟩,hp.shrink.ext hx⟩,?_,⟨none,0,0,Row1.made _ _ _,OwnL.nil _ _ _ _ _,fun k q=>by cases q⟩,fun q=>Nat.lt_irrefl _ q.2,fun i q=> ?_,⟨?_,fun j hj=> ?_⟩,aF _⟩,fun i q=>hb.new i q.1,hb.ext.trans hx,hb.ext.size⟩
 ·exact TblAt.ext (F:=fun i=>F i/\i<w.heap.size) ⟨ht.row,ht.tree,fun q=>ht.out q.1,fun j hj q=>ht.outs j hj q.1⟩ hx
 ·rw[World.size_alloc];have:=q.2;omega
 ·have:=ht.row.lt;omega
 ·have:=(ht.tree j hj).lt;omega
end
theorem X7z{tb p bl:Nat}{ts:Nat->Nat}{l:List OpD}{t:Nat}{F:Nat->Prop}(o:OpD)(w:World)(h:DoZ tb p bl ts l l t F w)(hid:In64 o.id)(ht:t<40):
  Calls Tryz.prog 24 #[.pointer (some ⟨tb,0,none⟩),.pointer (some ⟨p,0,none⟩),.pointer (some ⟨bl,0,none⟩),actV 2 o] w fun e w'=>e= .returned (.bool true)/\∃F':Nat->Prop,DoZ tb p bl ts l l (t+1) F' w'/\Keeps (Un F (fun i=>i=bl)) (Un F' (fun i=>i=bl)) w w':=by
 obtain⟨W1,hW1⟩:∃W1,w.alloc (.cells #[.int .i64 2,.int .i64 o.id,.int .i64 o.proc,.int .i64 o.object,.int .i64 o.kind,.int .i64 o.method,.int .i64 o.arg,.int .i64 o.second,.bool o.done,.int .i64 o.result,.int .i64 o.invoke,.int .i64 o.ret] 75)=W1:=⟨_,rfl⟩;have HX1:Hid (Ext w W1):=by unfold Hid;rw[<-hW1];exact Ext.alloc _ _
 have HRA:Hid (Row1 W1 w.heap.size 75 (Y2z 2 o)):=by unfold Hid;rw[<-hW1];exact Row1.made w _ _
 have HD1:Hid (DoZ tb p bl ts l l t F W1):=h.ext HX1.out;have hn:l.length<=40:=by have:=h.len;omega
 obtain⟨A,n,c,hr,hown,hno⟩:=HD1.out.list;have HRL:=hD hr;have hs:Sl W1 11 ROp (.slice A n c) l:=hown.sl (fun _=>rfl) (fun _=>rfl);have HS:=hD hs;obtain⟨x,hx⟩:∃x,(getL l o.id).getD opZero=x:=⟨_,rfl⟩;obtain⟨ok,hok⟩:∃ok,(getL l o.id).isSome=ok:=⟨_,rfl⟩;have cG:Hid (∀W,Ext W1 W->Calls Tryz.prog 66 #[.slice A n c,.int .i64 o.id] W fun e w'=>e= .returned (.tuple #[.agg #[.int .i64 x.id,.int .i64 x.proc,.int .i64 x.object,.int .i64 x.kind,.int .i64 x.method,.int .i64 x.arg,.int .i64 x.second,.bool x.done,.int .i64 x.result,.int .i64 x.invoke,.int .i64 x.ret],.bool ok])/\Ext W w'):=fun W hW=>by have h1:=Y6a _ l o.id W (hs.ext hW);rw[hx,hok]at h1;exact h1
 have HC:Hid (∀W,Ext W1 W->W.cell? ⟨bl,0,none⟩=some (.slice A n c)/\W.cell? ⟨w.heap.size,1,none⟩=some (.int .i64 o.id)):=fun W hW=>⟨(HRL.out.ext hW HRL.out.lt).cell 0,(HRA.out.ext hW HRA.out.lt).cell 1⟩;have HBL:Hid (bl<w.heap.size):=by obtain⟨_,_,_,q,_,_⟩:=h.list;exact q.lt
 have HOK:=hD hok;have HX:=hD hx;have HN:=hD hn;clear h hr hown hno hs hok hn hx;show Calls Tryz.prog 24 #[.pointer (some ⟨tb,0,none⟩),.pointer (some ⟨p,0,none⟩),.pointer (some ⟨bl,0,none⟩),.agg #[.int .i64 2,.int .i64 o.id,.int .i64 o.proc,.int .i64 o.object,.int .i64 o.kind,.int .i64 o.method,.int .i64 o.arg,.int .i64 o.second,.bool o.done,.int .i64 o.result,.int .i64 o.invoke,.int .i64 o.ret]] w _;go_enter Tryz.func24,Tryz.ntmps24;go_upto_region 1 with fail;clear hW1
 go_cut [9,10] (fun a b wx=>(∃bx,a= .pointer (some ⟨bx,0,none⟩)/\W1.heap.size<=bx/\Row1 wx bx 73 x.cells)/\b= .bool ok/\Ext W1 wx)
 case first=>
  refine wp_region_held_drew (S:=fun W=>W.cell? ⟨bl,0,none⟩=some (.slice A n c)/\W.cell? ⟨w.heap.size,1,none⟩=some (.int .i64 o.id)) (by kernel_rfl) (HC.out _ (by exact Xt)) (fun hHeld=> ?_);refine' tk 0 ?_;refine' tk 1 ?_;refine' tk 2 ?_;refine' tk 3 ?_;refine' tk 4 ?_;refine' tk 5 ?_;refine wpAnyH_ready (rs:= [6,10]) (by kernel_rfl) (by simp) ?_;refine AllReadyH.cons rfl (fun K hK=> ?_) (AllReadyH.cons rfl (fun K hK=> ?_) (AllReadyH.nil))
  ·go_simp
   (with_reducible refine(cG.out _ ?_).mono ?_)
   ·exact Xt
   rintro e w7 ⟨rfl,hb7⟩;have HB7:Hid (Ext W1 w7):=Ext.trans (by exact Xt) hb7;clear hb7
   (try dsimp only)
   (try go_simp)
   refine hK.out _ _ (HC.out _ HB7.out) (fun hHeld=> ?_);clear hK K;refine pt ?_;refine' tk 7 ?_;refine' tk 8 ?_;refine' tk 9 ?_;refine stp 10 (fun K hK=> ?_);go_simp
   skip
   refine hK.out _ _ (HC.out _ (HB7.out.trans (by exact Xt))) (fun hHeld=> ?_);clear hK K;refine pt ?_;refine stp 11 (fun K hK=> ?_);go_simp;generalize hw8:World.alloc _ _=w8;have HB8:Hid (Ext W1 w8):=by unfold Hid;rw[<-hw8];exact HB7.out.trans (Ext.alloc _ _)
   have HX8:Hid (Row1 w8 w7.heap.size 73 x.cells):=by unfold Hid;rw[<-hw8];exact Row1.made w7 _ x.cells
   clear hw8;refine hK.out _ _ (HC.out _ HB8.out) (fun hHeld=> ?_);clear hK K;refine pt ?_;refine' tk 12 ?_;refine wpAnyH_done (by kernel_rfl) ?_ _;go_wp2_with fail
   go_meet
   exact⟨⟨_,rfl,HB7.out.size,HX8.out⟩,rfl,HB8.out⟩
  ·go_simp
   skip
   refine hK.out _ _ (HC.out _ (by exact Xt)) (fun hHeld=> ?_);clear hK K;refine pt ?_;refine stp 6 (fun K hK=> ?_);go_simp
   (with_reducible refine(cG.out _ ?_).mono ?_)
   ·exact Xt
   rintro e w7 ⟨rfl,hb7⟩;have HRD:Hid (Row1 w7 W1.heap.size 73 opZero.cells):=by
    unfold Hid;refine Row1.ext ?_ hb7 ?_
    ·exact Row1.made' (by first | rfl | simp) _ opZero.cells
    ·simp
   have HB7:Hid (Ext W1 w7):=Ext.trans (by exact Xt) hb7;clear hb7
   (try dsimp only)
   (try go_simp)
   refine hK.out _ _ (HC.out _ HB7.out) (fun hHeld=> ?_);clear hK K;refine pt ?_;refine' tk 7 ?_;refine' tk 8 ?_;refine' tk 9 ?_;obtain⟨a0,a1,a2,a3,a4,a5,a6,a7,a8,a9,a10⟩:=Z1l (show Row1 w7 W1.heap.size 73 [.int .i64 0,.int .i64 0,.int .i64 0,.int .i64 0,.int .i64 0,.int .i64 0,.int .i64 0,.bool false,.int .i64 0,.int .i64 0,.int .i64 0]from HRD.out);obtain⟨f0,f1,f2,f3,f4,f5,f6,f7,f8,f9,f10⟩:=Z3o HRD.out;refine stp 11 (fun K hK=> ?_);go_simp;have HB8:=hD (Y0g HB7.out (aF _) (.int .i64 x.id) (.int .i64 x.proc) (.int .i64 x.object) (.int .i64 x.kind) (.int .i64 x.method) (.int .i64 x.arg) (.int .i64 x.second) (.bool x.done) (.int .i64 x.result) (.int .i64 x.invoke) (.int .i64 x.ret));have HX8:=hD (Z5r (show Row1 w7 W1.heap.size 73 [.int .i64 0,.int .i64 0,.int .i64 0,.int .i64 0,.int .i64 0,.int .i64 0,.int .i64 0,.bool false,.int .i64 0,.int .i64 0,.int .i64 0]from HRD.out) (.int .i64 x.id) (.int .i64 x.proc) (.int .i64 x.object) (.int .i64 x.kind) (.int .i64 x.method) (.int .i64 x.arg) (.int .i64 x.second) (.bool x.done) (.int .i64 x.result) (.int .i64 x.invoke) (.int .i64 x.ret));generalize hw8:World.setCell _ _ _=w8 at HB8 HX8 ⊢;clear hw8 a0 a1 a2 a3 a4 a5 a6 a7 a8 a9 a10 f0 f1 f2 f3 f4 f5 f6 f7 f8 f9 f10;refine hK.out _ _ (HC.out _ HB8.out) (fun hHeld=> ?_);clear hK K;refine pt ?_;refine' tk 12 ?_;refine wpAnyH_done (by kernel_rfl) ?_ _;go_wp2_with fail
   go_meet
   exact⟨⟨_,rfl,aF _,HX8.out⟩,rfl,HB8.out⟩
 case rest=>
 obtain⟨⟨bx,rfl,hbx,hxr⟩,rfl,hbc⟩:=hcut;have HBC:=hD hbc;have c1:wc.cell? ⟨w.heap.size,0,none⟩=some (.int .i64 2):=(HRA.out.ext hbc HRA.out.lt).cell 0;have c2:wc.cell? ⟨w.heap.size,1,none⟩=some (.int .i64 o.id):=(HRA.out.ext hbc HRA.out.lt).cell 1;have h3:=HD1.out.ext HBC.out;obtain⟨C,S,Ts,hti,hco,hpg⟩:=h3.ex;have cD:=Z7v o.id wc h3.at_ hpg hti.tab (hti.dep (by omega) 0 (by omega)) hid;have hnx:¬F bx:=fun q=>by have:=HD1.out.lt bx q;omega
 have HXR:Hid (∀F' w6,Keeps F F' wc w6->∀W,Ext w6 W->Row1 W bx 73 x.cells):=fun F' w6 hk W hW=>by have h1:=hk.only.row hxr hnx;exact h1.ext hW h1.lt
 have HFIN:Hid (∀(F':Nat->Prop) (w6:World),TblAt w6 tb p ts F'->PagerAt w6 p F' S->Keeps F F' wc w6->∀W,Ext w6 W->∃F':Nat->Prop,DoZ tb p bl ts l l (t+1) F' W/\Keeps (Un F (fun i=>i=bl)) (Un F' (fun i=>i=bl)) w W):=fun F' w6 q1 q3 q4 W hW=>by have h3:=HD1.out.ext HBC.out;obtain⟨F'',r1,r2⟩:=h3.after (hti.more (Nat.le_succ t)) (hco.more (Nat.le_succ t)) q1 q3 q4 (Nat.le_succ_of_le h3.len);refine⟨F'',r1.ext hW,?_⟩;have k1:Keeps (Un F (fun i=>i=bl)) (Un F (fun i=>i=bl)) w wc:=Keeps.of (HX1.out.trans HBC.out);exact(k1.trans r2).trans (Keeps.of hW)
 clear h3 hti hco hpg hid ht hxr hbx hnx hbc;cases hg:getL l o.id with
 | none=>
   have hx0:=HX.out;have ho0:=HOK.out;rw[hg]at hx0 ho0;obtain rfl:opZero=x:=hx0;obtain rfl:false=ok:=ho0;have cG:Calls Tryz.prog 72 #[.pointer (some ⟨tb,0,none⟩),.int .i64 o.id] wc fun e w'=>e= .returned (.tuple #[.agg #[.int .i64 0,.int .i64 0,.int .i64 0,.int .i64 0,.int .i64 0,.int .i64 0,.int .i64 0,.bool false,.int .i64 0,.int .i64 0,.int .i64 0],.int .i64 6])/\∃F',TblAt w' tb p ts F'/\PagerAt w' p F' S/\Keeps F F' wc w':=by rw[hg]at cD;exact cD
   clear cD hg;go_wp2_with (go_at_call 72;(with_reducible refine cG.mono ?_);clear cG;rintro e w6 ⟨rfl,F',y1,y2,y3⟩;have hx8:=Ext.alloc w6 (.cells #[.int .i64 0,.int .i64 0,.int .i64 0,.int .i64 0,.int .i64 0,.int .i64 0,.int .i64 0,.bool false,.int .i64 0,.int .i64 0,.int .i64 0] 73);have HF:=hD (HFIN.out F' w6 y1 y2 y3 _ hx8);obtain⟨o0,o1,o2,o3,o4,o5,o6,o7,o8,o9,o10⟩:=At11.row (o:=opZero) (Row1.made w6 73 opZero.cells);obtain⟨p0,p1,p2,p3,p4,p5,p6,p7,p8,p9,p10⟩:=At11.row (o:=opZero) (HXR.out F' w6 y3 _ hx8);clear y1 y2 y3 hx8);go_ret;exact⟨rfl,HF.out⟩
 | some y=>
   have hx0:=HX.out;have ho0:=HOK.out;rw[hg]at hx0 ho0;obtain rfl:y=x:=hx0;obtain rfl:true=ok:=ho0;have cG:Calls Tryz.prog 72 #[.pointer (some ⟨tb,0,none⟩),.int .i64 o.id] wc fun e w'=>e= .returned (.tuple #[.agg #[.int .i64 y.id,.int .i64 y.proc,.int .i64 y.object,.int .i64 y.kind,.int .i64 y.method,.int .i64 y.arg,.int .i64 y.second,.bool y.done,.int .i64 y.result,.int .i64 y.invoke,.int .i64 y.ret],.int .i64 0])/\∃F',TblAt w' tb p ts F'/\PagerAt w' p F' S/\Keeps F F' wc w':=by rw[hg]at cD;exact cD
   clear cD hg;go_wp2_with (go_at_call 72;(with_reducible refine cG.mono ?_);clear cG;rintro e w6 ⟨rfl,F',y1,y2,y3⟩;have hx8:=Ext.alloc w6 (.cells #[.int .i64 y.id,.int .i64 y.proc,.int .i64 y.object,.int .i64 y.kind,.int .i64 y.method,.int .i64 y.arg,.int .i64 y.second,.bool y.done,.int .i64 y.result,.int .i64 y.invoke,.int .i64 y.ret] 73);have HF:=hD (HFIN.out F' w6 y1 y2 y3 _ hx8);obtain⟨o0,o1,o2,o3,o4,o5,o6,o7,o8,o9,o10⟩:=At11.row (Row1.made w6 73 y.cells);obtain⟨p0,p1,p2,p3,p4,p5,p6,p7,p8,p9,p10⟩:=At11.row (HXR.out F' w6 y3 _ hx8);clear y1 y2 y3 hx8);go_ret;exact⟨rfl,HF.out⟩
def V4k(acts:List (Int×OpD)):List OpD:=acts.foldl (fun l a=>actL a.1 a.2 l) []
theorem X8m(acts:List (Int×OpD))(k:Nat)(h:k<acts.length):V4k (acts.take (k+1))=actL acts[k].1 acts[k].2 (V4k (acts.take k)):=by unfold V4k;rw[List.take_add_one,aB h,List.foldl_append];rfl
theorem Tab.all_eq{S:StoreD}{Ts:Nat->TrD}{l all:List OpD}(hT:Tab S Ts (fun _=>l))(hr:Ris l)(hf:Finds Ts 0 ⟨#[]⟩ l all all.length):all=l:=by
 have hf':Finds Ts 0 (bts []) l all all.length:=hf;have hw:0<5:=by omega
 have hint:∀o∈l,∀x∈wayL 0 o,In64 x:=fun o ho x hx=>(OpIn.of (hT.ok 0 hw o ho)).way 0 x hx;have hln:l.Nodup:=hr.imp (fun {a b} h e=>by rw[e]at h;omega);have hp:all.Perm l:=(List.perm_ext_iff_of_nodup (hf'.nodup hT hw) hln).2 (fun o=>by
  have h1:=hf'.mem_iff hT hw o;rw[List.take_length,wayK,Y0s]at h1;simpa using h1)
 have hr':l.Pairwise (fun a b=>a.id<b.id):=hr;refine Z8m (R:=fun(a b:OpD)=>a.id<b.id) _ _ hp ?_ hr' (fun a ha b hb h1 h2=>by omega);refine(hf'.rise hT hw).imp_of_mem (fun {a b} ha hb h=> ?_);rw[wayK,wayK,U0m (hint a (hf.mem a ha)) (hint b (hf.mem b hb))]at h;have h2:¬a.id=b.id/\a.id<b.id:=by simpa [wayL,ltI]using h
 exact h2.2
section
variable {w0 w w':World} {tb p bl:Nat} {ts:Nat->Nat} {l:List OpD} {t:Nat} {F:Nat->Prop}
theorem LawI.any(kind:Int)(o:OpD)(h:LawI w0 tb p bl ts l t F w)(hid:In64 o.id)(hres:In64 o.result)(ht:t<40):
  Calls Tryz.prog 24 #[.pointer (some ⟨tb,0,none⟩),.pointer (some ⟨p,0,none⟩),.pointer (some ⟨bl,0,none⟩),actV kind o] w fun e w'=>e= .returned (.bool true)/\∃F',LawI w0 tb p bl ts (actL kind o l) (t+1) F' w':=by
 by_cases hk:kind=2
 ·subst hk;refine(X7z o w h.doz hid ht).mono ?_;rintro e w' ⟨rfl,F',h1,h2⟩;have h3:=h2.fresh h.ext (fun i q=>q.elim (h.new i) (fun e=>e▸h.bl));exact⟨rfl,F',h1,fun i q=>h3.2 i (.inl q),h3.1,h.bl⟩
 ·exact h.act kind o hk hid hres ht
end
end Go.Proofs.YtohaldfnmgcofaaGreat
