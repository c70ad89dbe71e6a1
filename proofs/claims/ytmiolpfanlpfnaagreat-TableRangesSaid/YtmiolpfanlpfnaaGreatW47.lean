/- What the statement of layer 13's ranges calls: its closures; Range's iterator, whatever it is asked. Conditions: sizes. -/
import Derived.Test.YtmiolpfanlpfnaaGreatW38
import Derived.Test.YtmiolpfanlpfnaaGreatW46
set_option maxRecDepth 100000
set_option maxHeartbeats 8000000
set_option linter.unusedSimpArgs false
set_option linter.unusedVariables false
namespace Go.Proofs.YtmiolpfanlpfnaaGreat
open Go.RowKit
theorem X6q{bl:Nat}{pre:List OpD}{G:Nat->Prop}(x:OpD)(W:World)(h:PJ bl pre G W)(hp:pre.length<=100000):
  Calls Tryz.prog 23 #[x.val,.pointer (some ⟨bl,0,none⟩)] W fun e W'=>∃b:Bool,e= .returned (.bool b)/\YPost (PJ bl) (PX bl) (pre++ [x]) G W b W':=by
 obtain⟨A,c,ho,hr,hk⟩:=h.list;have hgl:=h.gl;have hvl:(Value.slice A pre.length c).ownBlock≠some bl:=ho.apartRow hr (by decide);have c0:W.cell? ⟨bl,0,none⟩=some (.slice A pre.length c):=hr.cell 0;have HO:=hD ho;have HR:=hD hr;have HK:=hD hk;have HGL:=hD hgl;have hbl:=hr.lt;obtain⟨n,hn⟩:∃n,pre.length=n:=⟨_,rfl⟩;have HN:=hD hn;have HLN:Hid ((pre++ [x]).length=n+1):=by unfold Hid;rw[aA,aK,hn]
 rw[hn]at hp ho hr hk hvl c0 HO HR HK;clear h hn ho hr hk hgl;go_enter Tryz.func23,Tryz.ntmps23;go_upto_region 1 with fail;have HX2:Hid (Ext W ((W.alloc (.cells #[.int .i64 x.id,.int .i64 x.proc,.int .i64 x.object,.int .i64 x.kind,.int .i64 x.method,.int .i64 x.arg,.int .i64 x.second,.bool x.done,.int .i64 x.result,.int .i64 x.invoke,.int .i64 x.ret] 32)).alloc (.cells #[.int .i64 x.id,.int .i64 x.proc,.int .i64 x.object,.int .i64 x.kind,.int .i64 x.method,.int .i64 x.arg,.int .i64 x.second,.bool x.done,.int .i64 x.result,.int .i64 x.invoke,.int .i64 x.ret] 32))):=(Ext.alloc _ _).trans (Ext.alloc _ _);have HOX:Hid (OwnL ((W.alloc (.cells #[.int .i64 x.id,.int .i64 x.proc,.int .i64 x.object,.int .i64 x.kind,.int .i64 x.method,.int .i64 x.arg,.int .i64 x.second,.bool x.done,.int .i64 x.result,.int .i64 x.invoke,.int .i64 x.ret] 32)).alloc (.cells #[.int .i64 x.id,.int .i64 x.proc,.int .i64 x.object,.int .i64 x.kind,.int .i64 x.method,.int .i64 x.arg,.int .i64 x.second,.bool x.done,.int .i64 x.result,.int .i64 x.invoke,.int .i64 x.ret] 32)) 0 32 11 OpD.cells (.slice A n c) pre):=HO.out.ext HX2.out;have HRX:Hid (Row1 ((W.alloc (.cells #[.int .i64 x.id,.int .i64 x.proc,.int .i64 x.object,.int .i64 x.kind,.int .i64 x.method,.int .i64 x.arg,.int .i64 x.second,.bool x.done,.int .i64 x.result,.int .i64 x.invoke,.int .i64 x.ret] 32)).alloc (.cells #[.int .i64 x.id,.int .i64 x.proc,.int .i64 x.object,.int .i64 x.kind,.int .i64 x.method,.int .i64 x.arg,.int .i64 x.second,.bool x.done,.int .i64 x.result,.int .i64 x.invoke,.int .i64 x.ret] 32)) bl 30 [.slice A n c]):=HR.out.ext HX2.out hbl;have HP1:Hid (pre.length+1<=1000000000):=by unfold Hid;rw[HN.out];omega
 have HVL:=hD hvl;go_wp2_with (at_builtin;go_loud (refine Z0t elOp Z3b Z8p rfl (.tmp 4) (.tmp 6) rfl (.slice A n c) pre rfl HOX.out (Nat.zero_le _) (W.heap.size+1) 1 x rfl (Row1.made' (by simp) _ x.cells) HP1.out (by decide) ?_;intro A4 c4 w4 hown4 hgr4 hwh4;rw[HLN.out]at hown4 hwh4 ⊢;have HR4:=HRX.out.grown hgr4 (fun e=>HVL.out e.symm);have v40:w4.cell? ⟨bl,0,none⟩=some (.slice A n c):=HR4.cell 0;have vf0:w4.frozen? ⟨bl,0,none⟩=false:=HR4.soft 0;have HR4:=hD HR4;have HO4:=hD hown4;have HG4:=hD hgr4;have HW4:=hD hwh4;clear hown4 hgr4 hwh4));go_ret;refine⟨decide ((n:Int)+1<1000),?_,⟨fun i=>(G i\/W.heap.size<=i)/\i<(w4.setCell ⟨bl,0,none⟩ (.slice A4 (n+1) c4)).heap.size,?_⟩⟩
 ·try simp only[Int.natCast_add,Int.natCast_one]
  rfl
 ·have hw2:((W.alloc (.cells #[.int .i64 x.id,.int .i64 x.proc,.int .i64 x.object,.int .i64 x.kind,.int .i64 x.method,.int .i64 x.arg,.int .i64 x.second,.bool x.done,.int .i64 x.result,.int .i64 x.invoke,.int .i64 x.ret] 32)).alloc (.cells #[.int .i64 x.id,.int .i64 x.proc,.int .i64 x.object,.int .i64 x.kind,.int .i64 x.method,.int .i64 x.arg,.int .i64 x.second,.bool x.done,.int .i64 x.result,.int .i64 x.invoke,.int .i64 x.ret] 32)).heap.size=W.heap.size+2:=by simp
  have hG:∀k,(Value.slice A4 (n+1) c4).ownBlock=some k->(G k\/W.heap.size<=k)/\k≠bl:=fun k hk=>by
   rcases HW4.out k hk with q | q
   ·exact⟨.inl (HK.out k q),fun e=>HVL.out (e▸q)⟩
   ·rw[hw2]at q;exact⟨.inr (by omega),by omega⟩
  have ho:Only (fun i=>i=bl) w4 (w4.setCell ⟨bl,0,none⟩ (.slice A4 (n+1) c4)):=Only.setCell (F:=fun i=>i=bl) (p:=⟨bl,0,none⟩) Only.refl (.inl rfl) _;have hr5:=HR4.out.set 0 (.slice A4 (n+1) c4);have ho5:=HO4.out.only ho (fun k hk=>(hG k hk).2);have hj:PJ bl (pre++ [x]) (fun i=>(G i\/W.heap.size<=i)/\i<(w4.setCell ⟨bl,0,none⟩ (.slice A4 (n+1) c4)).heap.size) (w4.setCell ⟨bl,0,none⟩ (.slice A4 (n+1) c4)):=by
   refine⟨⟨A4,c4,?_,?_,?_⟩,.inl HGL.out,hr5.lt⟩
   ·rw[HLN.out];exact ho5
   ·rw[HLN.out];exact hr5
   ·rw[HLN.out];exact fun k hk=>⟨(hG k hk).1,(ho5.lt k hk).2⟩
  refine⟨fun _=>hj,fun e=>⟨hj,?_⟩,⟨(((Only.of HX2.out).trans (Only.grown HG4.out) (fun i q=> .inl (HK.out i q))).setCell (p:=⟨bl,0,none⟩) (.inl HGL.out) _),fun i q=>q.1⟩,fun i q=>q.2⟩;rw[HLN.out];have:=of_decide_eq_false e;omega
structure CJ (bl:Nat) (k:Nat) (G:Nat->Prop) (W:World):Prop where
 row:Row1 W bl 3 [.int .i64 (k:Nat)]
 gl:G bl
def CJ0(bl:Nat)(pre:List OpD)(G:Nat->Prop)(W:World):Prop:=pre= []/\CJ bl 0 G W
def CJ1(bl:Nat)(pre:List OpD)(G:Nat->Prop)(W:World):Prop:=pre.length=1/\CJ bl 1 G W
theorem CJ.only{bl k:Nat}{G H:Nat->Prop}{W W':World}(h:CJ bl k G W)(ho:Only H W W')(hH:∀i,G i->¬H i):CJ bl k G W':=⟨ho.row h.row (hH _ h.gl),h.gl⟩
theorem CJ0.abides{bl:Nat}:Z2c (CJ0 bl):=fun s G W W' h _ ho=>⟨h.1,h.2.only ho (fun i q r=>r q)⟩
theorem CJ1.abides{bl:Nat}:Z2c (CJ1 bl):=fun s G W W' h _ ho=>⟨h.1,h.2.only ho (fun i q r=>r q)⟩
theorem X6s{bl:Nat}{pre:List OpD}{G:Nat->Prop}(x:OpD)(W:World)(h:CJ0 bl pre G W):
  Calls Tryz.prog 24 #[x.val,.pointer (some ⟨bl,0,none⟩)] W fun e W'=>∃b:Bool,e= .returned (.bool b)/\YPost (CJ0 bl) (CJ1 bl) (pre++ [x]) G W b W':=by
 obtain⟨rfl,hr,hg⟩:=h;have c0:W.cell? ⟨bl,0,none⟩=some (.int .i64 0):=hr.cell 0;have HR:=hD hr;have HG:=hD hg;obtain⟨W0,hW0⟩:∃W0,W.alloc (.cells #[.int .i64 x.id,.int .i64 x.proc,.int .i64 x.object,.int .i64 x.kind,.int .i64 x.method,.int .i64 x.arg,.int .i64 x.second,.bool x.done,.int .i64 x.result,.int .i64 x.invoke,.int .i64 x.ret] 32)=W0:=⟨_,rfl⟩;have HX0:Hid (Ext W W0):=by unfold Hid;rw[<-hW0];exact Ext.alloc _ _
 have HR0:Hid (Row1 W0 bl 3 [.int .i64 0]):=hr.ext HX0.out hr.lt;have c1:W0.cell? ⟨bl,0,none⟩=some (.int .i64 0):=HR0.out.cell 0;have f1:W0.frozen? ⟨bl,0,none⟩=false:=HR0.out.soft 0;clear hr hg c0;show Calls Tryz.prog 24 #[.agg #[.int .i64 x.id,.int .i64 x.proc,.int .i64 x.object,.int .i64 x.kind,.int .i64 x.method,.int .i64 x.arg,.int .i64 x.second,.bool x.done,.int .i64 x.result,.int .i64 x.invoke,.int .i64 x.ret],.pointer (some ⟨bl,0,none⟩)] W _;go_enter Tryz.func24,Tryz.ntmps24;go_upto_region 1 with fail;clear hW0;go_wp2_with fail;go_ret;have ho:Only (fun i=>i=bl) W0 (W0.setCell ⟨bl,0,none⟩ (.int .i64 1)):=Only.setCell (F:=fun i=>i=bl) (p:=⟨bl,0,none⟩) Only.refl (.inl rfl) _;have h1:Row1 (W0.setCell ⟨bl,0,none⟩ (.int .i64 1)) bl 3 [.int .i64 1]:=HR0.out.set 0 _;refine⟨false,rfl,⟨fun i=>G i/\i<(W0.setCell ⟨bl,0,none⟩ (.int .i64 1)).heap.size,(fun e=>by cases e),fun _=>⟨rfl,h1,HG.out,h1.lt⟩,⟨(Only.of HX0.out).trans ho (fun i q=> .inl (q▸HG.out)),fun i q=> .inl q.1⟩,fun i q=>q.2⟩⟩
theorem X6v{A:Option Addr}{n c bt bw bf ba bo tb:Nat}{ts:Nat->Nat}(way:Int)(fl:List Int)(lo hi:Int)(w:World)(y:Fn)(ya yb:Array Value)(ht:X1f w tb ts)
 (h1:Row1 w bt 26 [tp tb])(h2:Row1 w bw 3 [.int .i64 way])(h3:Row1 w bf 23 [.slice A n c])(h5:Row1 w ba 3 [.int .i64 lo])(h6:Row1 w bo 3 [.int .i64 hi])
 (hs:Sl w 1 RIn (.slice A n c) fl)(hl:∀x∈fl,In64 x)(hlo:In64 lo)(h100:fl.length<=100)(hout:3<fl.length\/way<0\/5<=way):
  Calls Tryz.prog 67 #[.func y ya yb,.pointer (some ⟨bf,0,none⟩),.pointer (some ⟨ba,0,none⟩),.pointer (some ⟨bt,0,none⟩),.pointer (some ⟨bw,0,none⟩),.pointer (some ⟨bo,0,none⟩)] w fun e w'=>(∃v,e= .returned v)/\Ext w w':=by
 have hl5:∀x∈fl++ [lo],In64 x:=fun x hx=>by
  rcases List.mem_append.1 hx with q | q
  ·exact hl x q
  ·rw[List.mem_singleton.1 q];exact hlo
 have hln:(fl++ [lo]).length=fl.length+1:=by rw[aA,aK]
 obtain⟨s,ev,hof,hev⟩:∃s ev,OfR (fl++ [lo])= .tuple #[.string s,.int .i64 ev]/\(ev=22\/(ev=0/\decide (way<0)=true)\/(ev=0/\decide (way<0)=false/\decide (5<=way)=true)):=by
  unfold OfR;by_cases h4:4<(fl++ [lo]).length
  ·rw[if_pos h4];exact⟨_,_,rfl,.inl rfl⟩
  ·rw[if_neg h4];by_cases hw:way<0
   ·exact⟨_,_,rfl,.inr (.inl ⟨rfl,decide_eq_true hw⟩)⟩
   ·exact⟨_,_,rfl,.inr (.inr ⟨rfl,decide_eq_false hw,decide_eq_true (by omega)⟩)⟩
 have cO:Hid (∀(A':Option Addr) (c':Nat) (W:World),Sl W 1 RIn (.slice A' (fl++ [lo]).length c') (fl++ [lo])->Calls Tryz.prog 68 #[.slice A' (fl++ [lo]).length c'] W fun e w'=>e= .returned (.tuple #[.string s,.int .i64 ev])/\Ext W w'):=fun A' c' W hW=>by rw[<-hof];exact X4k (fl++ [lo]) W hW hl5 (by omega)
 have cC:Hid (∀W,Ext w W->Calls Tryz.prog 69 #[.slice A n c] W fun e w'=>∃v',e= .returned v'/\OwnL w' W.heap.size 3 1 encN v' fl/\Ext W w'):=fun W hW=>Y6p W (hs.ext hW) (by omega);have cM:Hid (∀W,Ext w W->Calls Tryz.prog 70 #[tp tb] W fun e w'=>e= .returned (.bool true)/\W=w'):=fun W hW=>Z2w W (ht.ext hW ht.lt);have HC:Hid (∀W,Ext w W->W.cell? ⟨bt,0,none⟩=some (tp tb)/\W.cell? ⟨bw,0,none⟩=some (.int .i64 way)/\W.cell? ⟨bf,0,none⟩=some (.slice A n c)/\W.cell? ⟨ba,0,none⟩=some (.int .i64 lo)/\W.cell? ⟨bo,0,none⟩=some (.int .i64 hi)):=fun W hW=>⟨(h1.ext hW h1.lt).cell 0,(h2.ext hW h2.lt).cell 0,(h3.ext hW h3.lt).cell 0,(h5.ext hW h5.lt).cell 0,(h6.ext hW h6.lt).cell 0⟩;have HC1:Hid (∀W,Ext w W->W.cell? ⟨bf,0,none⟩=some (.slice A n c)/\W.cell? ⟨ba,0,none⟩=some (.int .i64 lo)):=fun W hW=>⟨(HC.out W hW).2.2.1,(HC.out W hW).2.2.2.1⟩;have HL5:Hid ((fl++ [lo]).length=n+1):=by unfold Hid;rw[hln,hs.at.1]
 have HNF:Hid (fl.length=n/\n<=100):=⟨hs.at.1.symm,by have:=hs.at.1;omega⟩;rw[HL5.out]at cO;clear hof hs hl hl5 hln h1 h2 h3 h5 h6 ht hlo h100 hout;obtain⟨W0,hW0⟩:∃W0,w.alloc (.cells #[.func y ya yb] 46)=W0:=⟨_,rfl⟩;have HX0:Hid (Ext w W0):=by unfold Hid;rw[<-hW0];exact Ext.alloc _ _
 go_enter Tryz.func67,Tryz.ntmps67;go_upto_region 1 with fail;clear hW0
 go_cut [7,8] (fun s7 s8 wx=>s7= .string s/\s8= .int .i64 ev/\Ext W0 wx)
 case first=>
  refine wp_region_held_drew (S:=fun W=>W.cell? ⟨bf,0,none⟩=some (.slice A n c)/\W.cell? ⟨ba,0,none⟩=some (.int .i64 lo)) (by kernel_rfl) (HC1.out _ (HX0.out.trans (by exact Xt))) (fun hHeld=> ?_);refine' tk 0 ?_;refine' tk 2 ?_;refine wpAnyH_ready (rs:= [1,3]) (by kernel_rfl) (by simp) ?_;refine AllReadyH.cons rfl (fun K hK=> ?_) (AllReadyH.cons rfl (fun K hK=> ?_) (AllReadyH.nil))
  ·go_simp
   (with_reducible refine(cC.out _ (HX0.out.trans ?_)).mono ?_)
   ·exact Xt
   rintro e w3 ⟨v3,rfl,ho3,hx3⟩;obtain⟨cA,cc,rfl⟩:=ho3.form;have HX3:Hid (Ext W0 w3):=Ext.trans (by exact Xt) hx3;have HO3:Hid (OwnL w3 W0.heap.size 3 1 encN (.slice cA fl.length cc) fl):=ho3.lower (by first | (simp;done) | (show W0.heap.size<=(W0.alloc _).heap.size;simp) | exact aF _);clear ho3 hx3
   (try dsimp only)
   (try go_simp)
   refine hK.out _ _ (HC1.out _ (HX0.out.trans HX3.out)) (fun hHeld=> ?_);clear hK K;refine pt ?_;refine stp 3 (fun K hK=> ?_);go_simp
   skip
   refine hK.out _ _ (HC1.out _ (HX0.out.trans (HX3.out.trans (by exact Xt)))) (fun hHeld=> ?_);clear hK K;refine pt ?_;refine stp 4 (fun K hK=> ?_);refine Z3a elInt Z0f Z1q rfl (.tmp 18) (.tmp 20) rfl (.slice cA fl.length cc) fl rfl (HO3.out.ext (by exact Xt)) (by have:=HX3.out.size;simp;omega) _ 1 lo rfl (Row1.made _ _ (encN lo)) (by have:=HNF.out;omega) (by decide) ?_;intro A5 c5 w5 hown5 hgr5 _;have HX5:Hid (Ext W0 w5):=(HO3.out.ext (w':=w3.alloc (.cells #[.int .i64 lo] 3)) (by exact Xt)).grown (a:=W0) (HX3.out.trans (by exact Xt)) hgr5 (aF _);rw[HL5.out]at hown5 ⊢;have HS5:Hid (Sl w5 1 RIn (.slice A5 (n+1) c5) (fl++ [lo])):=hown5.sl (R:=RIn) (fun _=>rfl) (fun _=>rfl);clear hown5 hgr5;refine hK.out _ _ (HC1.out _ (HX0.out.trans HX5.out)) (fun hHeld=> ?_);clear hK K;refine pt ?_;refine stp 5 (fun K hK=> ?_);go_simp
   (with_reducible refine(cO.out _ _ _ HS5.out).mono ?_)
   rintro e w6 ⟨rfl,hx6⟩;have HX6:Hid (Ext W0 w6):=HX5.out.trans hx6;clear hx6
   (try dsimp only)
   (try go_simp)
   refine hK.out _ _ (HC1.out _ (HX0.out.trans HX6.out)) (fun hHeld=> ?_);clear hK K;refine pt ?_;refine' tk 6 ?_;refine' tk 7 ?_;refine' tk 8 ?_;refine' tk 9 ?_;refine' tk 10 ?_;refine wpAnyH_done (by kernel_rfl) ?_ _;go_wp2_with fail
   go_meet
   exact⟨rfl,rfl,HX6.out⟩
  ·go_simp
   skip
   refine hK.out _ _ (HC1.out _ (HX0.out.trans (by exact Xt))) (fun hHeld=> ?_);clear hK K;refine pt ?_;refine stp 1 (fun K hK=> ?_);go_simp
   (with_reducible refine(cC.out _ (HX0.out.trans ?_)).mono ?_)
   ·exact Xt
   rintro e w3 ⟨v3,rfl,ho3,hx3⟩;obtain⟨cA,cc,rfl⟩:=ho3.form;have hr0:Row1 (W0.alloc (.cells #[.int .i64 lo] 3)).drew W0.heap.size 3 (encN lo):=Row1.made W0 3 (encN lo);have HR3:Hid (Row1 w3 W0.heap.size 3 (encN lo)):=hr0.ext hx3 hr0.lt;clear hr0;have HX3:Hid (Ext W0 w3):=Ext.trans (by exact Xt) hx3;have HO3:Hid (OwnL w3 W0.heap.size 3 1 encN (.slice cA fl.length cc) fl):=ho3.lower (by first | (simp;done) | (show W0.heap.size<=(W0.alloc _).heap.size;simp) | exact aF _);clear ho3 hx3
   (try dsimp only)
   (try go_simp)
   refine hK.out _ _ (HC1.out _ (HX0.out.trans HX3.out)) (fun hHeld=> ?_);clear hK K;refine pt ?_;refine stp 4 (fun K hK=> ?_);refine Z3a elInt Z0f Z1q rfl (.tmp 18) (.tmp 20) rfl (.slice cA fl.length cc) fl rfl HO3.out (by have:=HX3.out.size;omega) _ 1 lo rfl HR3.out (by have:=HNF.out;omega) (by decide) ?_;intro A5 c5 w5 hown5 hgr5 _;have HX5:Hid (Ext W0 w5):=HO3.out.grown (a:=W0) HX3.out hgr5 (aF _);rw[HL5.out]at hown5 ⊢;have HS5:Hid (Sl w5 1 RIn (.slice A5 (n+1) c5) (fl++ [lo])):=hown5.sl (R:=RIn) (fun _=>rfl) (fun _=>rfl);clear hown5 hgr5;refine hK.out _ _ (HC1.out _ (HX0.out.trans HX5.out)) (fun hHeld=> ?_);clear hK K;refine pt ?_;refine stp 5 (fun K hK=> ?_);go_simp
   (with_reducible refine(cO.out _ _ _ HS5.out).mono ?_)
   rintro e w6 ⟨rfl,hx6⟩;have HX6:Hid (Ext W0 w6):=HX5.out.trans hx6;clear hx6
   (try dsimp only)
   (try go_simp)
   refine hK.out _ _ (HC1.out _ (HX0.out.trans HX6.out)) (fun hHeld=> ?_);clear hK K;refine pt ?_;refine' tk 6 ?_;refine' tk 7 ?_;refine' tk 8 ?_;refine' tk 9 ?_;refine' tk 10 ?_;refine wpAnyH_done (by kernel_rfl) ?_ _;go_wp2_with fail
   go_meet
   exact⟨rfl,rfl,HX6.out⟩
 case rest=>
 obtain⟨rfl,rfl,hbc⟩:=hcut;have HB1:Hid (Ext w wc):=HX0.out.trans hbc;clear hbc;obtain⟨d1,d2,d3,d4,d5⟩:=HC.out _ HB1.out;rcases hev with rfl | ⟨rfl,q1⟩ | ⟨rfl,q1,q2⟩
 all_goals
  go_wp2_with (go_at_call 70;(with_reducible refine(cM.out _ HB1.out).mono ?_);clear cM;rintro e w2 ⟨rfl,rfl⟩);refine bodyPost_ret (results_none rfl _ _ _) rfl ?_;exact⟨⟨_,rfl⟩,HB1.out⟩
theorem X6r{way lo hi:Int}{fl:List Int}(h:3<fl.length\/way<0\/5<=way)(l:List OpD):Z2r way fl lo hi l= []:=by
 unfold Z2r;by_cases h3:3<fl.length
 ·rw[if_pos h3]
 ·rw[if_neg h3,V3e (by omega)];rfl
theorem X6u(way lo hi:Int)(fl:List Int)(l:List OpD):(Z2r way fl lo hi l).length<=l.length:=by
 unfold Z2r;split
 ·simp
 ·have h1:=Y4k way fl l l.length (aF _);rw[List.take_length]at h1;exact Nat.le_trans (List.length_filter_le _ _) h1
structure RawI (w0:World) (tb p:Nat) (ts:Nat->Nat) (S:StoreD) (F:Nat->Prop) (w:World):Prop where
 at_:TblAt w tb p ts F
 pag:PagerAt w p F S
 new:∀i,F i->w0.heap.size<=i/\i<w.heap.size
 ext:Ext w0 w
theorem RawI.to{w0 w w':World}{tb p:Nat}{ts:Nat->Nat}{S:StoreD}{F:Nat->Prop}(h:RawI w0 tb p ts S F w)(hx:Ext w w'):RawI w0 tb p ts S F w':=
 ⟨h.at_.ext hx,h.pag.ext hx,fun i q=>⟨(h.new i q).1,aE (h.new i q).2 hx.size⟩,h.ext.trans hx⟩
theorem Y5u{A:Option Addr}{n c bt bw bf ba bo bl g tb p:Nat}{ts:Nat->Nat}{F Gc:Nat->Prop}{S:StoreD}{Ts:Nat->TrD}{l:List OpD}{J Jx:List OpD->(Nat->Prop)->World->Prop}(way:Int)(fl:List Int)(lo hi:Int)(w0 w:World)
 (h:RawI w0 tb p ts S F w)(hT:Tab S Ts (fun _=>l))(hd:∀i,i<5->depT (Ts i)<=31)(hll:l.length<=100000)
 (h1:Row1 w bt 26 [tp tb])(h2:Row1 w bw 3 [.int .i64 way])(h3:Row1 w bf 23 [.slice A n c])(h5:Row1 w ba 3 [.int .i64 lo])(h6:Row1 w bo 3 [.int .i64 hi])(n1:¬F bt)(n6:¬F bo)
 (hs:Sl w 1 RIn (.slice A n c) fl)(hl:∀x∈fl,In64 x)(hlo:In64 lo)(h100:fl.length<=100)
 (hEn:∀(args:Array Value) (W:World),(callFunc g args).run Tryz.prog W= .ok (.enter g args) W)(hJ:Z2c J)(hJx:Z2c Jx)(hj:J [] Gc w)(hG:∀i,Gc i->(w0.heap.size<=i/\i<w.heap.size)/\¬F i/\i≠tb/\i≠bt/\i≠bo/\∀j,j<5->i≠ts j)
 (hY:∀(pre:List OpD) (x:OpD) (W:World) (G:Nat->Prop),J pre G W->pre.length<=100000->Calls Tryz.prog g #[x.val,.pointer (some ⟨bl,0,none⟩)] W fun e W'=>∃b:Bool,e= .returned (.bool b)/\YPost J Jx (pre++ [x]) G W b W'):
  Calls Tryz.prog 67 #[.func (.func g) #[] #[.pointer (some ⟨bl,0,none⟩)],.pointer (some ⟨bf,0,none⟩),.pointer (some ⟨ba,0,none⟩),.pointer (some ⟨bt,0,none⟩),.pointer (some ⟨bw,0,none⟩),.pointer (some ⟨bo,0,none⟩)] w fun e w'=>
   (∃v,e= .returned v)/\∃(F2 G2:Nat->Prop) (j:Nat),j<=(Z2r way fl lo hi l).length/\((j=(Z2r way fl lo hi l).length/\J ((Z2r way fl lo hi l).take j) G2 w')\/Jx ((Z2r way fl lo hi l).take j) G2 w')/\(RawI w0 tb p ts S F2 w'/\∀i,G2 i->¬F2 i)/\Keeps (Un F Gc) (Un F2 G2) w w':=by
 by_cases hout:3<fl.length\/way<0\/5<=way
 ·rw[X6r hout];refine(X6v way fl lo hi w (.func g) #[] #[.pointer (some ⟨bl,0,none⟩)] h.at_.row h1 h2 h3 h5 h6 hs hl hlo h100 hout).mono ?_;rintro e w' ⟨hv,hx⟩;exact⟨hv,F,Gc,0,aF _,.inl ⟨rfl,hJ _ _ _ _ hj (fun i q=>(hG i q).1.2) (Only.of hx)⟩,⟨h.to hx,fun i q=>(hG i q).2.1⟩,Keeps.of hx⟩
 ·obtain⟨wn,rfl⟩:∃wn:Nat,way=wn:=⟨way.toNat,by omega⟩;have hwn:wn<5:=by omega
  obtain⟨all,k,hR⟩:=hT.ranges hwn fl lo hi;have hsame:=hR.same hT hwn (by omega) hl hlo;have hal:all.length<=l.length:=(hR.nodup hT hwn).length_le_of_subset (fun o ho=>hR.mem o ho);have hk:=hR.le;have hlen:(Z2r (wn:Nat) fl lo hi l).length=k:=by rw[<-hsame,aD];omega
  have hk0:hi<lo->k=0:=fun hlt=>by
   rcases Nat.eq_zero_or_pos k with e | e
   ·exact e
   ·exfalso;have hm:all[0]'(by omega)∈all.take k:=List.mem_iff_getElem.2 ⟨0,by rw[aD];omega,List.getElem_take⟩;obtain⟨_,_,x,_,q1,q2⟩:=(hR.mem_iff hT hwn hl hlo _).1 hm;omega
  refine(X6w (Gc:=Gc) wn fl lo hi w h.at_ h.pag hT hd hwn h1 h2 h3 h5 h6 n1 n6 hs hl hlo (by omega) hk0 hR (by omega) hEn hJ hJx hj (fun i q=>⟨(hG i q).1.2,(hG i q).2⟩) hY).mono ?_;rintro e w' ⟨hv,F2,G2,j,hj1,hj2,hjj,ht2,⟨hp2,hd2⟩,hk2⟩;have htk:(Z2r (wn:Nat) fl lo hi l).take j=all.take j:=by rw[<-hsame,List.take_take];congr 1;omega
  have h4:=hk2.fresh h.ext (fun i q=>q.elim (fun q=>(h.new i q).1) (fun q=>(hG i q).1.1));refine⟨hv,fun i=>F2 i/\i<w'.heap.size,G2,j,by omega,?_,⟨⟨⟨ht2.row,ht2.tree,fun q=>ht2.out q.1,fun j hj q=>ht2.outs j hj q.1⟩,hp2.shrink,fun i q=>⟨h4.2 i (.inl q.1),q.2⟩,h4.1⟩,fun i q r=>hd2 i q r.1⟩,⟨hk2.only,fun i q=>hk2.new i (q.elim (fun q=> .inl q.1) .inr)⟩⟩;rw[htk,hlen];exact hjj
theorem X6h(ya yb:Array Value)(W:World):Sem.run Tryz.prog (binOp .eql 44 (.func (.func 67) ya yb) .nilFunc) W= .ok (.bool false) W:=by kernel_rfl
theorem Y3a(hAw:∀w,Calls Tryz.prog 16 #[] w fun e w'=>e= .returned (.bool true)/\Ext w w')(V U:Value)(acts:List (Int×OpD))(fl:List Int)(way lo hi:Int)(w:World)(hs:Sl w 12 RAct V acts)(hin:∀a∈acts,In64 a.2.id/\In64 a.2.result)(hu:Sl w 1 RIn U fl)(hl:∀x∈fl,In64 x)(hlo:In64 lo):
  Calls Tryz.prog 5 #[V,.int .i64 way,U,.int .i64 lo,.int .i64 hi] w fun e w'=>e= .returned (.bool true)/\Ext w w':=by
 obtain⟨A,c,rfl⟩:=hs.form;obtain⟨B,d0,rfl⟩:=hu.form;obtain⟨_,hc1,hc2,hA⟩:=hs.at;have HA:=hD hA;have HIN:=hD hin;have HAW:=hD hAw;have HU:=hD hu;have HFL:=hD hl;have HLO:=hD hlo;have cB:=Y4z w;clear hs hA hin hAw hu hl hlo;by_cases h100:100<fl.length
 ·have q0:decide ((100:Int)<(fl.length:Int))=true:=aN;clear h100;go_enter Tryz.func5,Tryz.ntmps5;go_wp2_with (first
   | (go_at_call 15;(with_reducible refine cB.mono ?_);clear cB;rintro e w1 ⟨d,p,tb,ts,F,rfl,ht,hb,hz⟩;have HX1:=hD hb.ext;clear ht hb hz)
   | (go_at_call 16;(with_reducible refine(HAW.out _).mono ?_);rintro e w4 ⟨rfl,hx4⟩;have HX4:=hD hx4;clear hx4))
  go_ret;exact⟨rfl,HX1.out.trans HX4.out⟩
 have q0:decide ((100:Int)<(fl.length:Int))=false:=aM;have H100:Hid (fl.length<=100):=by unfold Hid;omega
 clear h100;go_enter Tryz.func5,Tryz.ntmps5
 go_upto_block 0 with (go_at_call 15;(with_reducible refine cB.mono ?_);clear cB;rintro e w1 ⟨d,p,tb,ts,F,rfl,ht,hb,hz⟩;have HST:=hD (LawI.start ht hb);clear ht hb hz)
 generalize hW2:World.alloc w1 _=W2 at *;obtain⟨bl,hbl⟩:∃bl,w1.heap.size=bl:=⟨_,rfl⟩;rw[hbl]at HST ⊢;have HBL:=hD hbl;clear hW2 hbl;obtain⟨L,hL⟩:∃L,X8m (acts.take 40)=L:=⟨_,rfl⟩;have HL:=hD hL
 go_cut [15] (fun _ wx=>∃F,LawI w tb p bl ts L 40 F wx)
 case first=>
  go_wp2_with fail
  go_loopw [15] (fun i wr=>∃(k:Nat) (F:Nat->Prop),k<=acts.length/\k<=40/\i= .int .i64 k/\LawI w tb p bl ts (X8m (acts.take k)) k F wr) (fun i _=>acts.length-(intOf i).toNat)
  case atStart=>exact⟨0,_,by omega,by omega,rfl,HST.out⟩
  case round=>
   obtain⟨k,F2,hk,hk40,rfl,hr⟩:=hrel;have HR:=hD hr;clear hr;by_cases hlt:k<acts.length
   ·have hd:decide ((k:Int)<(acts.length:Int))=true:=by simp;omega
    by_cases h40:k<40
    ·have hd2:decide ((k:Int)<40)=true:=by simp;omega
     have HT:=hD (X8l acts k hlt);have HIK:=hD (HIN.out _ (List.getElem_mem hlt));obtain⟨b,off,rfl,hbl,hx⟩:=HA.out (by omega);obtain⟨cs,rfl,_,hcs⟩:=hx k hlt;have HE:Hid (∀W:World,Ext w W->(W.cell? ⟨b,off+k*12,none⟩=some (.int .i64 acts[k].1)/\W.cell? ⟨b,off+k*12+1,none⟩=some (.int .i64 acts[k].2.id)/\W.cell? ⟨b,off+k*12+2,none⟩=some (.int .i64 acts[k].2.proc)/\W.cell? ⟨b,off+k*12+3,none⟩=some (.int .i64 acts[k].2.object)/\W.cell? ⟨b,off+k*12+4,none⟩=some (.int .i64 acts[k].2.kind)/\W.cell? ⟨b,off+k*12+5,none⟩=some (.int .i64 acts[k].2.method)/\W.cell? ⟨b,off+k*12+6,none⟩=some (.int .i64 acts[k].2.arg)/\W.cell? ⟨b,off+k*12+7,none⟩=some (.int .i64 acts[k].2.second)/\W.cell? ⟨b,off+k*12+8,none⟩=some (.bool acts[k].2.done)/\W.cell? ⟨b,off+k*12+9,none⟩=some (.int .i64 acts[k].2.result)/\W.cell? ⟨b,off+k*12+10,none⟩=some (.int .i64 acts[k].2.invoke)/\W.cell? ⟨b,off+k*12+11,none⟩=some (.int .i64 acts[k].2.ret))):=by intro W h;have hw:=fun j u hu=>(h.cell (p:=⟨b,off+k*12+j,none⟩) hbl).trans (hcs j u hu);exact⟨hw 0 _ rfl,hw 1 _ rfl,hw 2 _ rfl,hw 3 _ rfl,hw 4 _ rfl,hw 5 _ rfl,hw 6 _ rfl,hw 7 _ rfl,hw 8 _ rfl,hw 9 _ rfl,hw 10 _ rfl,hw 11 _ rfl⟩
     clear hx hcs;generalize acts[k]=x at *;obtain⟨kd,o⟩:=x;dsimp only at HE HIK;generalize X8m (acts.take k)=l at *;have hbw:=aE hbl HR.out.ext.size;obtain⟨e0,e1,e2,e3,e4,e5,e6,e7,e8,e9,e10,e11⟩:=HE.out wr HR.out.ext;by_cases hkd:kd<2
     ·have q1:decide (kd<2)=true:=decide_eq_true hkd;have HS:Hid (V5a l (kd,o)=actL kd o l):=if_pos hkd;have cD:=HR.out.act kd o (by omega) HIK.out.1 HIK.out.2 h40;unfold actV at cD;clear hkd;go_wp2_with (go_at_call 17;(with_reducible refine cD.mono ?_);clear cD;rintro e w3 ⟨rfl,F3,hl3⟩;have HL3:=hD hl3;clear hl3)
      go_roundw
      case rel=>exact⟨k+1,F3,by omega,by omega,by go_num,by rw[HT.out,HS.out];exact HL3.out⟩
      case measure=>simp[intOf];omega
     ·have q1:decide (kd<2)=false:=decide_eq_false hkd;have HS:Hid (V5a l (kd,o)=l):=if_neg hkd;clear hkd;go_wp2_with fail
      go_roundw
      case rel=>exact⟨k+1,F2,by omega,by omega,by go_num,by rw[HT.out,HS.out];exact HR.out.skip⟩
      case measure=>simp[intOf];omega
    ·obtain rfl:k=40:=by omega
     have hd2:decide (((40:Nat):Int)<40)=false:=by simp
     rw[HL.out]at HR;go_wp2_with fail
     go_meet
     exact⟨F2,HR.out⟩
   ·have hd:decide ((k:Int)<(acts.length:Int))=false:=by simp;omega
    have HF:Hid (∃F,LawI w tb p bl ts L 40 F wr):=by
     refine⟨F2,?_⟩;have e1:acts.take k=acts.take 40:=by rw[List.take_of_length_le (by omega),List.take_of_length_le (by omega)]
     have h1:=HR.out;rw[e1,HL.out]at h1;exact h1.more hk40
    go_wp2_with fail
    go_meet
    exact HF.out
 case rest=>
 obtain⟨F1,hr1⟩:=hcut;have HR1:=hD hr1;clear hr1 HST;have HLN:Hid (L.length<=40):=HR1.out.len;clear hL;obtain⟨lA,lc,hbr,hls⟩:=HR1.out.list;have c0:=hbr.cell 0;have cR:=Y5e (.slice lA L.length lc) (.slice B fl.length d0) L way fl lo hi wc hls (HU.out.ext HR1.out.ext) (by have:=HLN.out;omega);obtain⟨want,hwant⟩:∃want,Z2r way fl lo hi L=want:=⟨_,rfl⟩;have HWA:=hD hwant;have HWL:Hid (want.length<=40):=by unfold Hid;rw[<-hwant];exact Nat.le_trans (X6u _ _ _ _ _) HLN.out
 rw[hwant]at cR;clear hbr hls hwant;go_upto_region 11 with (go_at_call 21;(with_reducible refine cR.mono ?_);clear cR;rintro e w5 ⟨⟨v5,rfl,ho5⟩,hx5⟩;obtain⟨wA,wcap,rfl⟩:=ho5.form;have HO5:=hD ho5;have HX5:=hD hx5;clear ho5 hx5);clear c0;obtain⟨W6,hW6⟩:∃W6,w5.alloc (.cells #[.slice none 0 0] 30)=W6:=⟨_,rfl⟩;have HX6:Hid (Ext w5 W6):=by unfold Hid;rw[<-hW6];exact Ext.alloc _ _
 have HG6:Hid (Row1 W6 w5.heap.size 30 [.slice none 0 0]):=by unfold Hid;rw[<-hW6];exact Row1.made _ _ _
 have cRn:Hid (∀W,Calls Tryz.prog 22 #[.pointer (some ⟨tb,0,none⟩),.int .i64 way,.slice B fl.length d0,.int .i64 lo,.int .i64 hi] W (V4k B fl.length d0 (some ⟨tb,0,none⟩) way lo hi W)):=fun W=>V0h _ way lo hi W;have hnf:=fun(W:World) (ya yb:Array Value)=>X6h ya yb W;have hz6:W6.heap.size=w5.heap.size+1:=by rw[<-hW6];simp
 go_upto_region 12 with fail;clear hW6;generalize hgb:w5.heap.size=gb at *;have HGB:=hD hgb;clear hgb;go_upto_region 13 with (go_at_call 22;(with_reducible refine(cRn.out _).mono ?_);clear cRn;rintro e w7 ⟨bf,ba,bt,bw,bo,rfl,hx7,hb7,hr1,hr2,hr3,hr4,hr5⟩;have HX7:=hD hx7;have HB7:=hD hb7;have HR7:Hid (Row1 w7 bt 26 [tp tb]/\Row1 w7 bw 3 [.int .i64 way]/\Row1 w7 bf 23 [.slice B fl.length d0]/\Row1 w7 ba 3 [.int .i64 lo]/\Row1 w7 bo 3 [.int .i64 hi]):=⟨hr1,hr2,hr3,hr4,hr5⟩;clear hx7 hb7 hr1 hr2 hr3 hr4 hr5);obtain⟨C,S,Ts,hz,_,hpg⟩:=HR1.out.doz.ex;have HT:Hid (Tab S Ts (fun _=>L)/\∀i,i<5->depT (Ts i)<=31):=⟨hz.tab,fun i hi=>hz.dep (by omega) i hi⟩;have HX57:Hid (Ext w5 w7):=HX6.out.trans HX7.out;have HRW:Hid (RawI w tb p ts S F1 w7):=RawI.to ⟨HR1.out.doz.at_,hpg,fun i q=>⟨HR1.out.new i q,HR1.out.doz.lt i q⟩,HR1.out.ext⟩ (HX5.out.trans HX57.out);clear hz hpg;have HZS:Hid (w.heap.size<=wc.heap.size/\wc.heap.size<=gb/\W6.heap.size=gb+1/\W6.heap.size<=w7.heap.size/\tb<wc.heap.size/\∀j,j<5->ts j<wc.heap.size):=⟨HR1.out.ext.size,by rw[<-HGB.out];exact HX5.out.size,hz6,HX7.out.size,HR1.out.doz.at_.row.lt,fun j hj=>(HR1.out.doz.at_.tree j hj).lt⟩;clear hz6;have cG:=Y5u (bt:=bt) (bw:=bw) (bf:=bf) (ba:=ba) (bo:=bo) (bl:=gb) (g:=23) (Gc:=fun i=>i=gb) (J:=PJ gb) (Jx:=PX gb) way fl lo hi w w7 HRW.out HT.out.1 HT.out.2 (by have:=HLN.out;omega) HR7.out.1 HR7.out.2.1 HR7.out.2.2.1 HR7.out.2.2.2.1 HR7.out.2.2.2.2
  (fun q=>by have:=HR1.out.doz.lt _ q;have:=HZS.out;have:=HB7.out.1;omega) (fun q=>by have:=HR1.out.doz.lt _ q;have:=HZS.out;have:=HB7.out.2.2.2.2;omega)
  (HU.out.ext (HR1.out.ext.trans (HX5.out.trans HX57.out))) HFL.out HLO.out H100.out (enters_of Tryz.func23 (by kernel_rfl) rfl) PJ.abides PX.abides
  ⟨⟨none,0,OwnL.nil _ _ _ _ _,HG6.out.ext HX7.out HG6.out.lt,fun k q=>by cases q⟩,rfl⟩
  (fun i q=>by
    subst q;have h1:=HZS.out;have h2:=HB7.out;exact⟨⟨by omega,by omega⟩,fun r=>by have:=HR1.out.doz.lt _ r;omega,by omega,by omega,by omega,fun j hj e=>by have:=h1.2.2.2.2.2 j hj;omega⟩)
  (fun pre x W G h hp=>X6q x W h hp)
 rw[HWA.out]at cG;go_upto_region 16 with (go_at_call 67;(with_reducible refine cG.mono ?_);clear cG;rintro e w8 ⟨⟨v8,rfl⟩,F2,G2,j,hj,hjj,⟨hrw,hdis⟩,hk⟩;have HJJ:=hD hjj;have HRW8:=hD hrw;have HDIS:=hD hdis;have HK8:=hD hk;clear hj hjj hrw hdis hk);have HPJ:Hid (PJ gb want (fun i=>G2 i/\i<w8.heap.size) w8):=by
  have h:PJ gb want G2 w8:=by
   rcases HJJ.out with ⟨rfl,h⟩ | ⟨_,h⟩
   ·rwa [List.take_length]at h
   ·exfalso;rw[aD]at h;have:=HWL.out;omega
  obtain⟨gA,gc,q1,q2,q3⟩:=h.list;exact⟨⟨gA,gc,q1,q2,fun k q=>⟨q3 k q,(q1.lt k q).2⟩⟩,h.gl,q2.lt⟩
 have HKS:Hid (∀x,(w.heap.size<=x/\x<w7.heap.size/\¬F1 x/\x≠gb)->(∀(ty:TypeId) (cs:List Value),Row1 w7 x ty cs->Row1 w8 x ty cs)/\¬F2 x/\x<w8.heap.size):=fun x hx=>⟨fun ty cs hr=>HK8.out.only.row hr (fun r=>r.elim hx.2.2.1 hx.2.2.2),fun r=>HK8.out.out hx.2.1 (fun r=>r.elim hx.2.2.1 hx.2.2.2) (.inl r),aE hx.2.1 HK8.out.only.size⟩;have hz8:w7.heap.size<=w8.heap.size:=HK8.out.only.size;have HZ8:=hD hz8;clear HJJ hz8;go_upto_region 17 with fail;obtain⟨W9,hW9⟩:∃W9,w8.alloc (.cells #[.int .i64 0] 3)=W9:=⟨_,rfl⟩;have HX9:Hid (Ext w8 W9):=by unfold Hid;rw[<-hW9];exact Ext.alloc _ _
 have HF9:Hid (Row1 W9 w8.heap.size 3 [.int .i64 0]):=by unfold Hid;rw[<-hW9];exact Row1.made _ _ _
 have hz9:W9.heap.size=w8.heap.size+1:=by rw[<-hW9];simp
 rw[hW9];clear hW9;generalize hfb:w8.heap.size=fb at *;have HFB:=hD hfb;clear hfb;have HIN7:Hid (∀x,(x=bt\/x=bw\/x=bf\/x=ba\/x=bo)->w.heap.size<=x/\x<w7.heap.size/\¬F1 x/\x≠gb):=fun x hx=>by
  have h1:=HB7.out;have h2:=HZS.out;have h3:=HR7.out;have l1:=h3.1.lt;have l2:=h3.2.1.lt;have l3:=h3.2.2.1.lt;have l4:=h3.2.2.2.1.lt;have l5:=h3.2.2.2.2.lt;have h4:W6.heap.size<=x/\x<w7.heap.size:=by omega
  exact⟨by omega,h4.2,fun r=>by have:=HR1.out.doz.lt _ r;omega,by omega⟩
 have cH:=Y5u (bt:=bt) (bw:=bw) (bf:=bf) (ba:=ba) (bo:=bo) (bl:=fb) (g:=24) (Gc:=fun i=>i=fb) (J:=CJ0 fb) (Jx:=CJ1 fb) way fl lo hi w W9 (HRW8.out.to HX9.out) HT.out.1 HT.out.2 (by have:=HLN.out;omega)
  (((HKS.out bt (HIN7.out bt (by simp))).1 _ _ HR7.out.1).ext HX9.out (by have:=(HKS.out bt (HIN7.out bt (by simp))).2.2;rw[HFB.out];exact this)) (((HKS.out bw (HIN7.out bw (by simp))).1 _ _ HR7.out.2.1).ext HX9.out (by have:=(HKS.out bw (HIN7.out bw (by simp))).2.2;rw[HFB.out];exact this)) (((HKS.out bf (HIN7.out bf (by simp))).1 _ _ HR7.out.2.2.1).ext HX9.out (by have:=(HKS.out bf (HIN7.out bf (by simp))).2.2;rw[HFB.out];exact this)) (((HKS.out ba (HIN7.out ba (by simp))).1 _ _ HR7.out.2.2.2.1).ext HX9.out (by have:=(HKS.out ba (HIN7.out ba (by simp))).2.2;rw[HFB.out];exact this)) (((HKS.out bo (HIN7.out bo (by simp))).1 _ _ HR7.out.2.2.2.2).ext HX9.out (by have:=(HKS.out bo (HIN7.out bo (by simp))).2.2;rw[HFB.out];exact this))
  (HKS.out bt (HIN7.out bt (by simp))).2.1 (HKS.out bo (HIN7.out bo (by simp))).2.1
  (HU.out.ext (HRW8.out.ext.trans HX9.out)) HFL.out HLO.out H100.out (enters_of Tryz.func24 (by kernel_rfl) rfl) CJ0.abides CJ1.abides
  ⟨rfl,HF9.out,rfl⟩
  (fun i q=>by
    subst q;have h1:=HZS.out;have h2:=HZ8.out;have h3:=HRW8.out.ext.size;have h4:=HFB.out;have h5:=(HKS.out bt (HIN7.out bt (by simp))).2.2;have h6:=(HKS.out bo (HIN7.out bo (by simp))).2.2;exact⟨⟨by omega,by omega⟩,fun r=>by have:=(HRW8.out.new _ r).2;omega,by omega,by omega,by omega,fun j hj e=>by have:=h1.2.2.2.2.2 j hj;omega⟩)
  (fun pre x W G h _=>X6s x W h)
 rw[HWA.out]at cH;have HW8:Hid (Sl w8 11 ROp (.slice wA want.length wcap) want/\∀b,(Value.slice wA want.length wcap).ownBlock=some b->¬F2 b/\b<fb):=by
  have hb:∀b,(Value.slice wA want.length wcap).ownBlock=some b->w.heap.size<=b/\b<w7.heap.size/\¬F1 b/\b≠gb:=fun b hv=>by have h1:=HO5.out.lt b hv;have h2:=HZS.out;have h3:=HGB.out;exact⟨by omega,by omega,fun r=>by have:=HR1.out.doz.lt _ r;omega,by omega⟩
  have h1:OwnL w7 wc.heap.size 32 11 OpD.cells (.slice wA want.length wcap) want:=HO5.out.ext HX57.out;refine⟨(h1.only HK8.out.only (fun b hv r=> ?_)).sl (fun _=>rfl) (fun _=>rfl),fun b hv=>⟨(HKS.out b (hb b hv)).2.1,(HKS.out b (hb b hv)).2.2⟩⟩;have:=hb b hv;exact r.elim this.2.2.1 this.2.2.2
 go_upto_region 18 with (go_at_call 67;(with_reducible refine cH.mono ?_);clear cH;rintro e w10 ⟨⟨v10,rfl⟩,F3,G3,j,hj,hjj,⟨hrw,_⟩,hk⟩;have HJJ:=hD hjj;have HJL:=hD hj;have HRW10:=hD hrw;have HK10:=hD hk;clear hjj hrw hk hj);obtain⟨nf,hnf⟩:∃nf:Nat,min 1 want.length=nf:=⟨_,rfl⟩;have HFR:Hid (Row1 w10 fb 3 [.int .i64 (nf:Nat)]):=by
  unfold Hid;rcases HJJ.out with ⟨rfl,h1,h2⟩ | ⟨h1,h2⟩
  ·rw[List.take_length]at h1;have:nf=0:=by rw[<-hnf,h1];rfl
   rw[this];exact h2.row
  ·rw[aD]at h1;have:=HJL.out;have:nf=1:=by omega
   rw[this];exact h2.row
 have HPJ10:Hid (PJ gb want (fun i=>G2 i/\i<fb) w10):=by have h1:=HPJ.out.only (Only.of (F:=fun _=>False) HX9.out) (fun _ _ q=>q);exact h1.only HK10.out.only (fun i q r=>r.elim (HDIS.out i q.1) (fun e=>by have:=q.2;omega))
 have HS10:Hid (Sl w10 11 ROp (.slice wA want.length wcap) want):=(HW8.out.1.ext HX9.out).onlyC HK10.out.only (fun b _ hv r=>r.elim (HW8.out.2 b hv).1 (fun e=>by have:=(HW8.out.2 b hv).2;omega));obtain⟨gA,gc,hg1,hg2,_⟩:=HPJ10.out.list;have HSG:Hid (Sl w10 11 ROp (.slice gA want.length gc) want):=hg1.sl (fun _=>rfl) (fun _=>rfl);have c1:w10.cell? ⟨gb,0,none⟩=some (.slice gA want.length gc):=hg2.cell 0;have HGR:=hD hg2;have cO:Hid (∀(P Q:Value) (W:World),Sl W 11 ROp P want->Sl W 11 ROp Q want->Calls Tryz.prog 19 #[P,Q] W fun e w'=>e= .returned (.bool true)/\Ext W w'):=fun P Q W h1 h2=>X4i P Q want W h1 h2;clear hg1 hg2;go_wp2_with (go_at_call 19;(with_reducible refine(cO.out _ _ _ HSG.out HS10.out).mono ?_);clear cO;rintro e w11 ⟨rfl,hx11⟩;have HX11:=hD hx11;have c2:w11.cell? ⟨fb,0,none⟩=some (.int .i64 (nf:Nat)):=(HFR.out.ext hx11 HFR.out.lt).cell 0;clear hx11);refine(HAW.out _).mono ?_;rintro e w12 ⟨rfl,hx12⟩;have HX12:=hD hx12;clear hx12;go_wp2_with fail;go_ret;exact⟨rfl,(HRW10.out.ext.trans HX11.out).trans HX12.out⟩
end Go.Proofs.YtmiolpfanlpfnaaGreat
