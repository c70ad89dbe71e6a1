/- The beginning of layer 13's statements: a disk, a pager, and a table. Conditions: none. -/
import Derived.Test.YtmiolpfanlpfnaaGreatU31
set_option maxRecDepth 100000
set_option maxHeartbeats 8000000
set_option linter.unusedSimpArgs false
set_option linter.unusedVariables false
namespace Go.Proofs.YtmiolpfanlpfnaaGreat
open Go.RowKit
structure Begun (w:World) (p:Nat) (F:Nat→Prop) (n room:Nat) (w':World):Prop where
 pag:PagerAt w' p F (Z1j n room)
 ext:Ext w w'
 new:∀i,F i→w.heap.size≤i
theorem Keeps.fresh{F F':Nat→Prop}{w w1 w2:World}(h:Keeps F F' w1 w2)(hx:Ext w w1)(hF:∀i,F i→w.heap.size≤i):Ext w w2∧∀i,F' i→w.heap.size≤i:=by
 refine⟨((Only.of (F:=fun _=>False) hx).trans h.only (fun i q=> .inr (hF i q))).toExt (fun _ q=>q.elim),fun i q=> ?_⟩
 rcases h.new i q with r | r
 ·exact hF i r
 ·have:=hx.size;omega
theorem Y4o(w:World):
  Calls Tryz.prog 15 #[] w fun e w'=>∃d p tb ts F,e= .returned (.tuple #[.pointer (some ⟨d,0,none⟩),.pointer (some ⟨p,0,none⟩),.pointer (some ⟨tb,0,none⟩)])∧TblAt w' tb p ts F∧Begun w p F 1800 860 w'∧w.heap.size≤tb:=by
 have cN:Calls Tryz.prog 49 #[.int .i64 1800] w _:=X2i 1800 w (by omega) (by omega)
 have cF:Hid (∀W (g:Nat) (F1:Nat→Prop),DiskAt W g F1 (newD 1800)→Calls Tryz.prog 50 #[.pointer (some ⟨g,0,none⟩),.int .i64 860] W fun e w'=>e= .returned (.int .i64 0)∧∃F',DiskAt w' g F' (fmtD 1800 860 (pgN 1800 860))∧Keeps F1 F' W w'):=fun W g F1 hW=>X7g 1800 860 (pgN 1800 860) W hW (by omega) (by omega) (by omega) rfl
 have cO:Hid (∀W (g:Nat) (F2:Nat→Prop),DiskAt W g F2 (fmtD 1800 860 (pgN 1800 860))→Calls Tryz.prog 51 #[.pointer (some ⟨g,0,none⟩)] W fun e w'=>∃s F',e= .returned (.tuple #[.pointer (some ⟨s,0,none⟩),.int .i64 0])∧StoreAt w' s F' (Y5x 1800 860)∧Keeps F2 F' W w'∧W.heap.size≤s):=fun W g F2 hW=>X5w (Z4s 1800 860) W hW rfl (by rw[V2j];omega) (X7e (by omega) (by omega) (by omega)) (X0f (by omega) (by omega) (by omega)) rfl
 have cP:Hid (∀W (s:Nat) (F2:Nat→Prop),StoreAt W s F2 (Y5x 1800 860)→Calls Tryz.prog 52 #[.pointer (some ⟨s,0,none⟩)] W fun e w'=>∃p F',e= .returned (.tuple #[.pointer (some ⟨p,0,none⟩),.int .i64 0])∧PagerAt w' p F' (Y5x 1800 860)∧Keeps F2 F' W w'∧W.heap.size≤p):=fun W s F2 hW=>Y9o W hW (X6d 1800 860) (by decide)
 have cG:Hid (∀W (p:Nat) (F2:Nat→Prop),PagerAt W p F2 (Y5x 1800 860)→Calls Tryz.prog 53 #[.pointer (some ⟨p,0,none⟩)] W fun e w'=>e= .returned (.int .i64 0)∧∃F',PagerAt w' p F' (Z1j 1800 860)∧Keeps F2 F' W w'):=fun W p F2 hW=>X1l W hW
 go_enter Tryz.func15,Tryz.ntmps15
 go_wp2_with (first | (go_at_call 49;(with_reducible refine cN.mono ?_);clear cN;rintro e w1 ⟨g,F1,rfl,hd1,hx1,hn1⟩;have HX1:=hD hx1;have HN1:=hD hn1;have HD1:=hD hd1;clear hx1 hn1 hd1) | (go_at_call 50;(with_reducible refine(cF.out _ _ _ HD1.out).mono ?_);clear cF;rintro e w2 ⟨rfl,F2,hd2,hk2⟩;have HK2:=hD hk2;have HD2:=hD hd2;clear hk2 hd2) | (go_at_call 51;(with_reducible refine(cO.out _ _ _ HD2.out).mono ?_);clear cO;rintro e w3 ⟨s,F3,rfl,hs3,hk3,hz3⟩;have HK3:=hD hk3;have HS3:=hD hs3;clear hk3 hs3 hz3) | (go_at_call 52;(with_reducible refine(cP.out _ _ _ HS3.out).mono ?_);clear cP;rintro e w4 ⟨p,F4,rfl,hp4,hk4,hz4⟩;have HK4:=hD hk4;have HP4:=hD hp4;clear hk4 hp4 hz4) | (go_at_call 53;(with_reducible refine(cG.out _ _ _ HP4.out).mono ?_);clear cG;rintro e w5 ⟨rfl,F5,hp5,hk5⟩;have HK5:=hD hk5;have HP5:=hD hp5;clear hk5 hp5;have cT:=X1e w5 HP5.out) | (go_at_call 54;(with_reducible refine cT.mono ?_);clear cT;rintro e w6 ⟨tb,ts,F6,rfl,ht6,hp6,hk6,hz6⟩))
 go_ret3
 have h1:=((((HK2.out.trans HK3.out).trans HK4.out).trans HK5.out).trans hk6).fresh HX1.out HN1.out
 have h2:=Nat.le_trans (Nat.le_trans (Nat.le_trans (Nat.le_trans HX1.out.size HK2.out.only.size) HK3.out.only.size) (Nat.le_trans HK4.out.only.size HK5.out.only.size)) hz6
 exact⟨g,p,tb,ts,F6,rfl,ht6,⟨hp6,h1.1,h1.2⟩,h2⟩
def getR:Option OpD→Value
 | some o=> .tuple #[o.val,.int .i64 0]
 | none=> .tuple #[opZero.val,.int .i64 6]
theorem TblAt.keep{w w':World}{tb p:Nat}{ts:Nat→Nat}{F F':Nat→Prop}(h:TblAt w tb p ts F)(hk:Keeps F F' w w'):TblAt w' tb p ts F':=
 ⟨hk.only.row h.row h.out,fun j hj=>hk.only.row (h.tree j hj) (h.outs j hj),hk.out h.row.lt h.out,fun j hj=>hk.out (h.tree j hj).lt (h.outs j hj)⟩
theorem TblAt.ext{w w':World}{tb p:Nat}{ts:Nat→Nat}{F:Nat→Prop}(h:TblAt w tb p ts F)(hk:Ext w w'):TblAt w' tb p ts F:=h.keep (Keeps.of hk)
theorem Y0q(w:World)(B:Nat)(v0 v1 v2 v3 v4 v5 v6 v7 v8 v9 v10:Value):Only (fun i=>i=B) w (((((((((((w.setCell ⟨B,0,none⟩ v0).setCell ⟨B,1,none⟩ v1).setCell ⟨B,2,none⟩ v2).setCell ⟨B,3,none⟩ v3).setCell ⟨B,4,none⟩ v4).setCell ⟨B,5,none⟩ v5).setCell ⟨B,6,none⟩ v6).setCell ⟨B,7,none⟩ v7).setCell ⟨B,8,none⟩ v8).setCell ⟨B,9,none⟩ v9).setCell ⟨B,10,none⟩ v10):=(((((((((((Only.refl.setCell (F:=fun i=>i=B) (p:=⟨B,0,none⟩) (.inl rfl) v0).setCell (F:=fun i=>i=B) (p:=⟨B,1,none⟩) (.inl rfl) v1).setCell (F:=fun i=>i=B) (p:=⟨B,2,none⟩) (.inl rfl) v2).setCell (F:=fun i=>i=B) (p:=⟨B,3,none⟩) (.inl rfl) v3).setCell (F:=fun i=>i=B) (p:=⟨B,4,none⟩) (.inl rfl) v4).setCell (F:=fun i=>i=B) (p:=⟨B,5,none⟩) (.inl rfl) v5).setCell (F:=fun i=>i=B) (p:=⟨B,6,none⟩) (.inl rfl) v6).setCell (F:=fun i=>i=B) (p:=⟨B,7,none⟩) (.inl rfl) v7).setCell (F:=fun i=>i=B) (p:=⟨B,8,none⟩) (.inl rfl) v8).setCell (F:=fun i=>i=B) (p:=⟨B,9,none⟩) (.inl rfl) v9).setCell (F:=fun i=>i=B) (p:=⟨B,10,none⟩) (.inl rfl) v10)
theorem Y0a{tb p:Nat}{ts:Nat→Nat}{F:Nat→Prop}{S:StoreD}{Ts:Nat→TrD}{L:Nat→List OpD}(id:Int)(w:World)(ht:TblAt w tb p ts F)(hp:PagerAt w p F S)(hT:Tab S Ts L)(hd:depT (Ts 0)≤31)(hid:In64 id):
  Calls Tryz.prog 60 #[.pointer (some ⟨tb,0,none⟩),.int .i64 id] w fun e w'=>e= .returned (getR (getL (L 0) id))∧∃F',TblAt w' tb p ts F'∧PagerAt w' p F' S∧Keeps F F' w w':=by
 have hin:∀x∈wayL 0 (opId id),In64 x:=fun x hx=>by
  have:x=id:=by simpa [wayL,opId]using hx
  rw[this];exact hid
 have HS0:=hD (show PagerAt w p (fun i=>F i∧i<w.heap.size) S from hp.shrink)
 have HT0:Hid (TblAt w tb p ts (fun i=>F i∧i<w.heap.size)):=⟨ht.row,ht.tree,fun q=>ht.out q.1,fun j hj q=>ht.outs j hj q.1⟩
 have HWID:Hid (∀(F':Nat→Prop) (w':World),Keeps (fun i=>F i∧i<w.heap.size) F' w w'→Keeps F F' w w'):=fun F' w' h=>h.widen (fun i q=>q.1)
 have HLT:Hid (¬(fun i=>F i∧i<w.heap.size) w.heap.size):=fun q=>absurd q.2 (Nat.lt_irrefl _)
 generalize (fun i=>F i∧i<w.heap.size)=F0 at *
 clear hp ht
 have cM:Hid (∀W,Ext w W→Calls Tryz.prog 70 #[.pointer (some ⟨tb,0,none⟩)] W fun e w'=>e= .returned (.bool true)∧W=w'):=fun W hW=>Z3j W (HT0.out.ext hW).row
 have cW:Hid (∀W,Calls Tryz.prog 120 #[.int .i64 0,.agg #[.int .i64 id,.int .i64 0,.int .i64 0,.int .i64 0,.int .i64 0,.int .i64 0,.int .i64 0,.bool false,.int .i64 0,.int .i64 0,.int .i64 0]] W fun e w'=>e= .returned (.string (wayK 0 (opId id)))∧Ext W w'):=fun W=>Z8u 0 (opId id) W (by omega) hin
 have cG:Hid (∀W,Ext w W→Calls Tryz.prog 125 #[.pointer (some ⟨ts 0,0,none⟩),.string (wayK 0 (opId id))] W fun e w'=>e= .returned (getV ((getL (L 0) id).map (fun o=>bts (opL o))))∧∃F',PagerAt w' p F' S∧Keeps F0 F' W w'):=fun W hW=>by
  have h1:=X2y (Ts 0) (wayK 0 (opId id)) W ((HT0.out.ext hW).tree 0 (by omega)) (HT0.out.outs 0 (by omega)) (HS0.out.ext hW) (by omega) (hT.tr 0 (by omega)) (Z9q hd)
  rwa [hT.get hid]at h1
 have HOK:Hid (∀o,getL (L 0) id=some o→Z2e o=0):=fun o ho=>hT.ok 0 (by omega) o (List.mem_of_find?_eq_some ho)
 clear hT hd hin
 generalize wayK 0 (opId id)=ky at *
 generalize getL (L 0) id=R at *
 obtain⟨sv,ev,hgv,hrel⟩:∃sv ev,getV (R.map (fun o=>bts (opL o)))= .tuple #[.string sv,.int .i64 ev]∧((ev=0∧∃o,R=some o∧sv=bts (opL o))∨(ev=6∧R=none)):=by
  cases R with
  | none=>exact⟨_,_,rfl,.inr ⟨rfl,rfl⟩⟩
  | some o=>exact⟨_,_,rfl,.inl ⟨rfl,o,rfl,rfl⟩⟩
 rw[hgv]at cG
 have HREL:=hD hrel
 clear hrel hgv
 obtain⟨W0,hW0⟩:∃W0,w.alloc (.cells #[.int .i64 0,.int .i64 0,.int .i64 0,.int .i64 0,.int .i64 0,.int .i64 0,.int .i64 0,.bool false,.int .i64 0,.int .i64 0,.int .i64 0] 32)=W0:=⟨_,rfl⟩
 have HX0:Hid (Ext w W0):=by unfold Hid;rw[←hW0];exact Ext.alloc _ _
 have HR0:Hid (Row1 W0 w.heap.size 32 opZero.cells):=by unfold Hid;rw[←hW0];exact Row1.made w _ _
 have hc0:W0.cell? ⟨tb,0,none⟩=some (tp (ts 0)):=(HT0.out.ext HX0.out).row.cell 0
 go_enter Tryz.func60,Tryz.ntmps60
 go_upto_region 1 with fail
 clear hW0
 go_upto_region 3 with (go_at_call 70;(with_reducible refine(cM.out _ HX0.out).mono ?_);clear cM;rintro e w1 ⟨rfl,rfl⟩)
 refine wp_region_held_drew (S:=fun W=>W.cell? ⟨tb,0,none⟩=some (tp (ts 0))) (by kernel_rfl) (((HT0.out.ext HX0.out).ext (by exact Xt)).row.cell 0) (fun hHeld=> ?_)
 refine' tk 0 ?_
 refine' tk 1 ?_
 refine' tk 2 ?_
 refine' tk 3 ?_
 refine' tk 4 ?_
 refine' tk 5 ?_
 refine' tk 6 ?_
 refine stp 7 (fun K hK=> ?_);go_simp
 (with_reducible refine(cW.out _).mono ?_)
 rintro e w1 ⟨rfl,hb1⟩
 have HB1:Hid (Ext W0 w1):=Ext.trans (by exact Xt) hb1
 clear hb1
 (try dsimp only)
 (try go_simp)
 refine hK.out _ _ ((((HT0.out.ext HX0.out).ext HB1.out).ext (by exact Xt)).row.cell 0) (fun hHeld=> ?_)
 clear hK K
 refine pt ?_
 refine stp 8 (fun K hK=> ?_);go_simp
 (with_reducible refine(cG.out _ ?_).mono ?_)
 ·exact HX0.out.trans (HB1.out.trans (by exact Xt))
 rintro e w2 ⟨rfl,F2,hp2,hk2⟩
 have HP2:=hD hp2
 have HK2:Hid (Keeps F0 F2 W0 w2):=Keeps.trans (Keeps.of (HB1.out.trans (by exact Xt))) hk2
 clear hp2 hk2
 (try dsimp only)
 (try go_simp)
 refine hK.out _ _ ((HT0.out.keep ((Keeps.of HX0.out).trans HK2.out)).row.cell 0) (fun hHeld=> ?_)
 clear hK K
 refine pt ?_
 refine' tk 9 ?_
 refine' tk 10 ?_
 refine' tk 11 ?_
 refine' tk 12 ?_
 refine' tk 13 ?_
 refine wpAnyH_done (by kernel_rfl) ?_ _
 have HKW:Hid (Keeps F0 F2 w w2):=(Keeps.of HX0.out).trans HK2.out
 have HR2:Hid (Row1 w2 w.heap.size 32 opZero.cells):=HK2.out.only.row HR0.out HLT.out
 have HN2:Hid (¬F2 w.heap.size):=HK2.out.out HR0.out.lt HLT.out
 have HDN:Hid (∀W',Ext w2 W'→∃F',TblAt W' tb p ts F'∧PagerAt W' p F' S∧Keeps F F' w W'):=fun W' hW=>⟨F2,(HT0.out.keep HKW.out).ext hW,HP2.out.ext hW,HWID.out _ _ (HKW.out.ext hW)⟩
 have HSET:Hid (∀(W W':World),Ext w2 W→Only (fun i=>i=w.heap.size) W W'→∃F',TblAt W' tb p ts F'∧PagerAt W' p F' S∧Keeps F F' w W'):=fun W W' hW ho=>by
  have ht2:=(HT0.out.keep HKW.out).ext hW
  have hne:∀j,j<5→ts j≠w.heap.size:=fun j hj e=>by have:=(HT0.out.tree j hj).lt;omega
  have hnt:tb≠w.heap.size:=fun e=>by have:=HT0.out.row.lt;omega
  refine⟨F2,⟨ho.row ht2.row hnt,fun j hj=>ho.row (ht2.tree j hj) (hne j hj),ht2.out,ht2.outs⟩,(HP2.out.ext hW).only ho (fun i q e=>HN2.out (e▸q)),HWID.out _ _ ⟨((HKW.out.ext hW).only.trans ho (fun i q=> .inr (by omega))),HKW.out.new⟩⟩
 clear cW cG
 rcases HREL.out with ⟨rfl,o,rfl,rfl⟩ | ⟨rfl,rfl⟩
 ·have cD:Hid (∀W,Calls Tryz.prog 126 #[.string (bts (opL o))] W fun e w'=>e= .returned (.tuple #[.agg #[.int .i64 o.id,.int .i64 o.proc,.int .i64 o.object,.int .i64 o.kind,.int .i64 o.method,.int .i64 o.arg,.int .i64 o.second,.bool o.done,.int .i64 o.result,.int .i64 o.invoke,.int .i64 o.ret],.int .i64 0])∧Ext W w'):=fun W=>Y9r o W (HOK.out o rfl)
  generalize hso:bts (opL o)=so at *
  go_upto_region 6 with fail
  go_wp2_with (go_at_call 126;(with_reducible refine(cD.out _).mono ?_);clear cD;rintro e w3 ⟨rfl,hb3⟩;have HB3:=hD hb3;clear hb3;have HR3:Hid (Row1 w3 w.heap.size 32 [.int .i64 0,.int .i64 0,.int .i64 0,.int .i64 0,.int .i64 0,.int .i64 0,.int .i64 0,.bool false,.int .i64 0,.int .i64 0,.int .i64 0]):=HR2.out.ext HB3.out HR2.out.lt;obtain⟨a0,a1,a2,a3,a4,a5,a6,a7,a8,a9,a10⟩:=Z1q HR3.out;obtain⟨f0,f1,f2,f3,f4,f5,f6,f7,f8,f9,f10⟩:=Z4j HR3.out)
  refine bodyPost_ret (X3i rfl _ _ w.heap.size o _ rfl rfl ?_) rfl ⟨rfl,?_⟩
  ·exact Z6s HR3.out _ _ _ _ _ _ _ _ _ _ _
  ·exact HSET.out _ _ HB3.out (Y0q _ _ _ _ _ _ _ _ _ _ _ _ _)
 ·obtain⟨a0,a1,a2,a3,a4,a5,a6,a7,a8,a9,a10⟩:=Z1q (show Row1 w2 w.heap.size 32 [.int .i64 0,.int .i64 0,.int .i64 0,.int .i64 0,.int .i64 0,.int .i64 0,.int .i64 0,.bool false,.int .i64 0,.int .i64 0,.int .i64 0]from HR2.out)
  obtain⟨f0,f1,f2,f3,f4,f5,f6,f7,f8,f9,f10⟩:=Z4j HR2.out
  go_wp2_with fail
  refine bodyPost_ret (X3i rfl _ _ w.heap.size opZero _ rfl rfl ?_) rfl ⟨rfl,?_⟩
  ·exact Z6s (show Row1 w2 w.heap.size 32 [.int .i64 0,.int .i64 0,.int .i64 0,.int .i64 0,.int .i64 0,.int .i64 0,.int .i64 0,.bool false,.int .i64 0,.int .i64 0,.int .i64 0]from HR2.out) _ _ _ _ _ _ _ _ _ _ _
  ·exact HSET.out _ _ (Ext.refl _) (Y0q _ _ _ _ _ _ _ _ _ _ _ _ _)
theorem Y2n{tb p:Nat}{ts:Nat→Nat}{F:Nat→Prop}{S:StoreD}{Ts:Nat→TrD}{L:Nat→List OpD}(id:Int)(w:World)(ht:TblAt w tb p ts F)(hp:PagerAt w p F S)(hT:Tab S Ts L)(hd:depT (Ts 0)≤31)(hid:In64 id)(hn:getL (L 0) id=none):
  Calls Tryz.prog 59 #[.pointer (some ⟨tb,0,none⟩),.int .i64 id] w fun e w'=>e= .returned (.int .i64 6)∧∃F',TblAt w' tb p ts F'∧PagerAt w' p F' S∧Keeps F F' w w':=by
 have cG:Calls Tryz.prog 60 #[.pointer (some ⟨tb,0,none⟩),.int .i64 id] w fun e w'=>e= .returned (.tuple #[.agg #[.int .i64 0,.int .i64 0,.int .i64 0,.int .i64 0,.int .i64 0,.int .i64 0,.int .i64 0,.bool false,.int .i64 0,.int .i64 0,.int .i64 0],.int .i64 6])∧∃F',TblAt w' tb p ts F'∧PagerAt w' p F' S∧Keeps F F' w w':=by
  have h1:=Y0a id w ht hp hT hd hid
  rw[hn]at h1
  exact h1
 clear ht hp hT hd hid hn
 go_enter Tryz.func59,Tryz.ntmps59
 go_wp2_with (go_at_call 60;(with_reducible refine cG.mono ?_);clear cG;rintro e w1 ⟨rfl,F1,ht1,hp1,hk1⟩;have HT1:=hD ht1;have HP1:=hD hp1;have HK1:=hD hk1;clear ht1 hp1 hk1)
 go_ret
 exact⟨rfl,F1,HT1.out.ext (Ext.alloc _ _),HP1.out.ext (Ext.alloc _ _),HK1.out.ext (Ext.alloc _ _)⟩
def U0t(i:Nat)(o:OpD)(T T':TrD):Prop:=∃Sa Sb,Fm Sa∧TrS Sa i T∧Y1u Sa i (wayK i o) (recW i o) Sb T' T
structure PutK (tb p:Nat) (ts:Nat→Nat) (Ts0:Nat→TrD) (L:Nat→List OpD) (o:OpD) (R:Nat) (F0:Nat→Prop) (w:World) (k:Nat) (wr:World) (S:StoreD) (Ts:Nat→TrD) (F:Nat→Prop):Prop where
 at_:TblAt wr tb p ts F
 pag:PagerAt wr p F S
 keep:Keeps F0 F w wr
 tab:Tab S Ts (fun i=>if i<k then o::L i else L i)
 done:∀i,i<k→U0t i o (Ts0 i) (Ts i)
 same:∀i,k≤i→Ts i=Ts0 i
 room:R≤Z0z S+Z4p Ts0 k
theorem PutK.step{tb p:Nat}{ts:Nat→Nat}{Ts0:Nat→TrD}{L:Nat→List OpD}{o:OpD}{R:Nat}{F0 F F':Nat→Prop}{w wr w':World}{k:Nat}{S S':StoreD}{Ts:Nat→TrD}{T':TrD}(h:PutK tb p ts Ts0 L o R F0 w k wr S Ts F)(hk:k<5)(ho:Z2e o=0)(hn:∀x∈L k,x.id≠o.id)
 (hp:Y1u S k (wayK k o) (recW k o) S' T' (Ts k))(hp':PagerAt w' p F' S')(hkp:Keeps F F' wr w'):PutK tb p ts Ts0 L o R F0 w (k+1) w' S' (updF Ts k T') F':=by
 obtain⟨h1,h2⟩:=h.tab.putR hk ho (by rw[if_neg (Nat.lt_irrefl _)];exact hn) hp
 refine⟨h.at_.keep hkp,hp',h.keep.trans hkp,h1.congr (fun i _=>rfl) (fun i _=> ?_),fun i hi=> ?_,fun i hi=> ?_,?_⟩
 ·by_cases e:i=k
  ·subst e;rw[Z0w,if_pos (by omega),if_neg (by omega)]
  ·rw[Z0p _ _ e]
   by_cases hl:i<k
   ·rw[if_pos hl,if_pos (by omega)]
   ·rw[if_neg hl,if_neg (by omega)]
 ·by_cases e:i=k
  ·subst e
   rw[Z0w]
   exact⟨S,S',h.tab.fm,(h.same i (Nat.le_refl _))▸h.tab.tr i hk,(h.same i (Nat.le_refl _))▸hp⟩
  ·rw[Z0p _ _ e];exact h.done i (by omega)
 ·rw[Z0p _ _ (by omega)];exact h.same i (by omega)
 ·have:=h.room
  rw[h.same k (Nat.le_refl _)]at h2
  show _≤_+(Z4p Ts0 k+(Ts0 k).need)
  omega
theorem Y7k(Ts:Nat→TrD):∀(k m:Nat),k<m→Z4p Ts k+(Ts k).need≤Z4p Ts m
 | k,0,h=>absurd h (by omega)
 | k,m+1,h=>by
   show _≤Z4p Ts m+(Ts m).need
   by_cases e:k=m
   ·subst e;exact Nat.le_refl _
   ·have:=Y7k Ts k m (by omega);omega
def ShrR(i:Nat):(d:Nat)→StoreD→TT d→StoreD→TrD→Prop
 | 0,S,t,S',T'=>S'=S∧T'= .yes 0 t
 | d+1,S,t,S',T'=>(1<(InT.kids t).length∧S'=S∧T'= .yes (d+1) t)∨∃c,InT.kids t= [c]∧ShrR i d (useP (Z0o S i (atT d c)) (InT.at_ t) false) c S' T'
def Z6g(S:StoreD)(l:List Nat):StoreD:=l.foldl (fun S b=>useP S b false) S
def Z9w(S:StoreD)(i:Nat)(k:ByteArray)(S':StoreD)(T':TrD):TrD→Prop
 | .no=>False
 | .yes d t=>∃S1 t1,Y1t d S t k S1 t1∧((Z0e d t1= []∧S'=Z6g (Z0o S1 i 0) (Z0a d t1)∧T'= .no)∨(Z0e d t1≠ []∧ShrR i d S1 t1 S' T'))
def depD:TrD→Nat
 | .no=>0
 | .yes d _=>d+1
structure DelTL (S:StoreD) (i:Nat) (T:TrD) (l:List KV) (S':StoreD) (T':TrD) (G:List Nat):Prop where
 big:Big i (fun b=>b∈T.pages) [] G S S'
 nd:G.Nodup
 back:∀b∈G,b∈T.pages
 tr:TrS S' i T'
 pages:(T'.pages++G).Perm T.pages
 list:T'.list=l
 dep:depD T'≤depD T
theorem Y3z:∀(l:List Nat) {S:StoreD},FullV S→(∀b∈l,b<2048)→Stp (fun _=>False) [] l S (Z6g S l)
 | [],S,hf,_=>Stp.refl hf |>.mono (fun _ q=>q)
 | b::r,S,hf,hl=>by
   have h1:=Y1z hf (hl b List.mem_cons_self)
   have h2:=Y3z r h1.full (fun x hx=>hl x (List.mem_cons_of_mem _ hx))
   have h3:=h1.trans (Q:=fun _=>False) h2 (fun b q=>by cases q) (fun b q=> .inl q)
   exact h3.mono (fun b q=>q.elim id id)
theorem X9e(i:Nat)(hi:i<16):∀(d:Nat) {S S':StoreD} {t:TT d} {T':TrD},ShrR i d S t S' T'→Fm S→onT S d t→okT d t→(Z0a d t).Nodup→Z1v S i=atT d t→
  ∃G,Big i (fun _=>False) [] G S S'∧TrS S' i T'∧(T'.pages++G).Perm (Z0a d t)∧T'.list=Z0e d t∧depD T'≤d+1
 | 0,S,S',t,T',h,hf,hon,hok,hnd,hr=>by
   obtain⟨rfl,rfl⟩:=h
   exact⟨[],(Stp.refl hf.full |>.mono (fun _ q=>q)).big i,⟨hr,hon,hok,hnd⟩,by rw[List.append_nil];exact List.Perm.refl _,rfl,Nat.le_refl _⟩
 | d+1,S,S',t,T',h,hf,hon,hok,hnd,hr=>by
   rcases h with ⟨_,rfl,rfl⟩ | ⟨c,hc,h⟩
   ·exact⟨[],(Stp.refl hf.full |>.mono (fun _ q=>q)).big i,⟨hr,hon,hok,hnd⟩,by rw[List.append_nil];exact List.Perm.refl _,rfl,Nat.le_refl _⟩
   ·have hcm:c∈InT.kids t:=by rw[hc];exact List.mem_cons_self
    have hm:=hf.most
    have hca:=(Z0k d c (hon.2 c hcm) _ (Z0q d c)).2.1
    have hta:=hon.1.given
    have hpg:Z0a (d+1) t=InT.at_ t::Z0a d c:=by
     show InT.at_ t::(InT.kids t).flatMap (Z0a d)=_
     rw[hc];simp
    have hls:Z0e (d+1) t=Z0e d c:=by
     show(InT.kids t).flatMap (Z0e d)=_
     rw[hc];simp
    rw[hpg,List.nodup_cons]at hnd
    obtain⟨b1,hr1⟩:=Stp.setRoot (i:=i) (n:=atT d c) (Stp.refl hf.full |>.mono (P':=fun _=>False) (fun _ q=>q)) hi (by omega)
    have b2:=Y1z b1.full (n:=InT.at_ t) (by have:=hta.2.1;omega)
    have b12:=b1.trans (Q:=fun _=>False) (b2.big i) (fun b q=>by cases q) (fun b q=> .inl q)
    have hf2:Fm (useP (Z0o S i (atT d c)) (InT.at_ t) false):=hf.big b12 (fun b q=>by
     simp only[List.nil_append,List.mem_singleton]at q;subst q;exact hta.1)
    have hon2:onT (useP (Z0o S i (atT d c)) (InT.at_ t) false) d c:=Y3m b12.frm d c (hon.2 c hcm) (fun b q=>⟨fun r=>r.elim id id,by simp,by
     simp only[List.nil_append,List.mem_singleton];intro e;subst e;exact hnd.1 q⟩)
    obtain⟨G,q1,q2,q3,q4,q5⟩:=X9e i hi d h hf2 hon2 (hok.2.2.2.1 c hcm) hnd.2 (by rw[b2.root,hr1])
    have b3:=b12.trans (Q:=fun _=>False) q1 (fun b q=>by cases q) (fun b q=>q.elim)
    refine⟨InT.at_ t::G,?_,q2,?_,q4.trans hls.symm,Nat.le_succ_of_le q5⟩
    ·have:=b3.mono (P':=fun _=>False) (fun b q=>q.elim (fun q=>q.elim id id) id)
     simpa using this
    ·rw[hpg]
     exact List.perm_middle.trans (List.Perm.cons _ q3)
theorem X0l{S S':StoreD}{i:Nat}{k:ByteArray}{T T':TrD}(hi:i<16)(h:Z9w S i k S' T' T)(hf:Fm S)(ht:TrS S i T)(hk:∃x∈T.list,x.1=k):∃G,DelTL S i T (Z7h T.list k) S' T' G:=by
 cases T with
 | no=>exact h.elim
 | yes d t=>
   obtain⟨hr,hon,hok,hnd⟩:=ht
   obtain⟨S1,t1,htk,h⟩:=h
   obtain⟨G1,hl⟩:=Z6p d htk hf hon hok ((Z9n d t hok k).2 hk) hnd
   have hn1:=hl.nd hnd
   have hf1:=hl.fm hf hon
   rcases h with ⟨he,rfl,rfl⟩ | ⟨hne,h⟩
   ·have hlt:∀b∈Z0a d t1,b<2048:=fun b hb=>by have:=(Z0k d t1 hl.on b hb).2.1;have:=hf1.most;omega
    obtain⟨b1,hr1⟩:=Stp.setRoot (i:=i) (n:=0) (Stp.refl hf1.full |>.mono (P':=fun _=>False) (fun _ q=>q)) hi (by omega)
    have b2:=Y3z (Z0a d t1) b1.full hlt
    have b12:=b1.trans (Q:=fun _=>False) (b2.big i) (fun b q=>by cases q) (fun b q=> .inl q)
    have b3:=(hl.stp.big i).trans (Q:=fun _=>False) b12 (fun b q=>by cases q) (fun b q=>q.elim (fun q=>q.elim) (fun q=>q.elim))
    refine⟨G1++Z0a d t1,?_,?_,fun b hb=> ?_,?_,?_,?_,Nat.zero_le _⟩
    ·have:=b3.mono (P':=fun b=>b∈TrD.pages (.yes d t)) (fun b q=>q.elim id False.elim)
     simpa using this
    ·rw[List.nodup_append]
     exact⟨hn1.2.1,hn1.1,fun a ha b hb e=>by subst e;exact(hn1.2.2.1 a ha).2 hb⟩
    ·rcases List.mem_append.1 hb with q | q
     ·exact(hn1.2.2.1 b q).1
     ·exact hn1.2.2.2 b q
    ·show Z1v _ i=0
     rw[b2.root,hr1]
    ·show([]++(G1++Z0a d t1)).Perm (Z0a d t)
     rw[List.nil_append]
     exact(List.perm_append_comm).trans hl.pages
    ·show []=Z7h (Z0e d t) k
     rw[←hl.list,he]
   ·obtain⟨G2,q1,q2,q3,q4,q5⟩:=X9e i hi d h hf1 hl.on hl.ok hn1.1 (by rw[hl.stp.root,hr,hl.at_])
    have b3:=(hl.stp.big i).trans (Q:=fun _=>False) q1 (fun b q=>by cases q) (fun b q=>q.elim)
    have hnd2:=q3.nodup_iff.2 hn1.1
    rw[List.nodup_append]at hnd2
    refine⟨G1++G2,?_,?_,fun b hb=> ?_,q2,?_,?_,q5⟩
    ·have:=b3.mono (P':=fun b=>b∈TrD.pages (.yes d t)) (fun b q=>q.elim id False.elim)
     simpa using this
    ·rw[List.nodup_append]
     exact⟨hn1.2.1,hnd2.2.1,fun a ha b hb e=>by subst e;exact(hn1.2.2.1 a ha).2 (q3.mem_iff.1 (List.mem_append_right _ hb))⟩
    ·rcases List.mem_append.1 hb with q | q
     ·exact(hn1.2.2.1 b q).1
     ·exact hn1.2.2.2 b (q3.mem_iff.1 (List.mem_append_right _ q))
    ·show(TrD.pages T'++(G1++G2)).Perm (Z0a d t)
     refine List.Perm.trans ?_ hl.pages
     have e1:(TrD.pages T'++(G1++G2)).Perm ((TrD.pages T'++G2)++G1):=by
      rw[List.append_assoc]
      exact List.Perm.append_left _ List.perm_append_comm
     exact e1.trans (List.Perm.append_right _ q3)
    ·show T'.list=Z7h (Z0e d t) k
     rw[q4,hl.list]
def delO(l:List OpD)(id:Int):List OpD:=l.filter (fun x=>decide (x.id≠id))
theorem Z9s{l:List OpD}{id:Int}{x:OpD}:x∈delO l id↔x∈l∧x.id≠id:=by unfold delO;rw[List.mem_filter];simp
theorem Y7u{l:List OpD}(h:l.Pairwise (fun a b=>a.id≠b.id)){a b:OpD}(ha:a∈l)(hb:b∈l)(e:a.id=b.id):a=b:=by
 obtain⟨i,hi,e1⟩:=List.mem_iff_getElem.1 ha
 obtain⟨j,hj,e2⟩:=List.mem_iff_getElem.1 hb
 have hp:=List.pairwise_iff_getElem.1 h
 have hij:i=j:=by
  rcases Nat.lt_trichotomy i j with q | q | q
  ·exact absurd (by rw[e1,e2,e]) (hp i j hi hj q)
  ·exact q
  ·exact absurd (by rw[e1,e2,e]) (hp j i hj hi q)
 subst hij
 exact e1.symm.trans e2
theorem X4r(T:TrD):depD T=depT T:=by cases T<;>rfl
theorem X6b{G:List Nat}{S S':StoreD}(hu:∀b,Z0y S' b=true↔(Z0y S b=true∨b∈([]:List Nat))∧b∉G)(hh:S'.head=S.head)(hG:G.Nodup)(hg:∀b∈G,Z0y S b=true∧b<S.head.pages):Z0z S'=Z0z S+G.length:=by
 have h1:Z1x S' S.head.pages+G.length=Z1x S S.head.pages:=by
  unfold Z1x
  rw[←List.length_append]
  apply List.Perm.length_eq
  rw[List.perm_ext_iff_of_nodup]
  ·intro b
   rw[List.mem_append,List.mem_filter,List.mem_filter,hu,List.mem_range]
   constructor
   ·rintro(⟨q1,q2,_⟩ | q)
    ·exact⟨q1,q2.elim id (by simp)⟩
    ·exact⟨(hg b q).2,(hg b q).1⟩
   ·rintro⟨q1,q2⟩
    by_cases q:b∈G
    ·exact .inr q
    ·exact .inl ⟨q1,.inl q2,q⟩
  ·rw[List.nodup_append]
   refine⟨List.nodup_range.filter _,hG,fun a ha b hb e=> ?_⟩
   subst e
   rw[List.mem_filter,hu]at ha
   exact ha.2.2 hb
  ·exact List.nodup_range.filter _
 have h2:=Y2q S S.head.pages
 unfold Z0z
 rw[hh]
 omega
theorem Tab.del{S S':StoreD}{Ts:Nat→TrD}{L:Nat→List OpD}{i:Nat}{o:OpD}{T':TrD}{G:List Nat}(h:Tab S Ts L)(hi:i<5)(ho:o∈L i)(hp:DelTL S i (Ts i) (Z7h (Ts i).list (wayK i o)) S' T' G):Tab S' (updF Ts i T') (updF L i (delO (L i) o.id)):=by
 refine⟨h.fm.big hp.big (fun b q=>((h.tr i hi).given b (hp.back b q)).1),fun j hj=> ?_,fun j k hj hk hne b hb=> ?_,fun j hj x hx=> ?_,fun j hj=> ?_,fun j hj x=> ?_⟩
 ·by_cases e:j=i
  ·subst e;rw[Z0w];exact hp.tr
  ·rw[Z0p _ _ e]
   exact TrS.other hp.big (by omega) e (h.tr j hj) (fun b hb=>⟨fun q=>h.disj j i hj hi e b hb q,by simp,fun q=>h.disj j i hj hi e b hb (hp.back b q)⟩)
 ·by_cases e:j=i
  ·subst e
   rw[Z0w]at hb
   rw[Z0p _ _ (Ne.symm hne)]
   exact h.disj j k hj hk hne b (hp.pages.mem_iff.1 (List.mem_append_left _ hb))
  ·rw[Z0p _ _ e]at hb
   by_cases e2:k=i
   ·subst e2
    rw[Z0w]
    exact fun q=>h.disj j k hj hk hne b hb (hp.pages.mem_iff.1 (List.mem_append_left _ q))
   ·rw[Z0p _ _ e2];exact h.disj j k hj hk hne b hb
 ·by_cases e:j=i
  ·subst e
   rw[Z0w]at hx
   exact h.ok j hj x (Z9s.1 hx).1
  ·rw[Z0p _ _ e]at hx;exact h.ok j hj x hx
 ·by_cases e:j=i
  ·subst e
   rw[Z0w]
   exact(h.ids j hj).filter _
  ·rw[Z0p _ _ e];exact h.ids j hj
 ·by_cases e:j=i
  ·subst e
   rw[Z0w,Z0w,hp.list]
   unfold Z7h
   rw[List.mem_filter]
   constructor
   ·rintro⟨h1,h2⟩
    obtain⟨y,hy,rfl⟩:=(h.mem j hj x).1 h1
    refine⟨y,Z9s.2 ⟨hy,fun q=> ?_⟩,rfl⟩
    rw[Y7u (h.ids j hj) hy ho q]at h2
    rw[(Z7g _ _).2 rfl]at h2
    cases h2
   ·rintro⟨y,hy,rfl⟩
    obtain⟨h1,h2⟩:=Z9s.1 hy
    refine⟨(h.mem j hj _).2 ⟨y,h1,rfl⟩,?_⟩
    rw[Z2j (fun q=>h2 (Y1w (OpIn.way (OpIn.of (h.ok j hj y h1)) j) (OpIn.way (OpIn.of (h.ok j hj o ho)) j) q))]
    rfl
  ·rw[Z0p _ _ e,Z0p _ _ e];exact h.mem j hj x
theorem Tab.delR{S S':StoreD}{Ts:Nat→TrD}{L:Nat→List OpD}{i:Nat}{o:OpD}{T':TrD}(h:Tab S Ts L)(hi:i<5)(ho:o∈L i)(hp:Z9w S i (wayK i o) S' T' (Ts i)):
  Tab S' (updF Ts i T') (updF L i (delO (L i) o.id))∧Z0z S'+T'.pages.length=Z0z S+(Ts i).pages.length∧depT T'≤depT (Ts i)∧T'.pages.length≤(Ts i).pages.length:=by
 obtain⟨G,hl⟩:=X0l (by omega) hp h.fm (h.tr i hi) ⟨_,(h.mem i hi _).2 ⟨o,ho,rfl⟩,rfl⟩
 have h0:=hl.pages.length_eq
 rw[List.length_append]at h0
 refine⟨h.del hi ho hl,?_,by rw[←X4r,←X4r];exact hl.dep,by omega⟩
 have h1:=X6b hl.big.used hl.big.head hl.nd (fun b hb=>⟨((h.tr i hi).given b (hl.back b hb)).2.2,((h.tr i hi).given b (hl.back b hb)).2.1⟩)
 have h2:=hl.pages.length_eq
 rw[List.length_append]at h2
 omega
theorem Z8m{α:Type}(f:α→List KV)(k:ByteArray):∀l:List α,Z1h (l.flatMap f) k=l.flatMap (fun c=>Z1h (f c) k)
 | []=>rfl
 | a::r=>by
   rw[List.flatMap_cons,List.flatMap_cons,←Z8m f k r]
   unfold Z1h
   rw[List.filter_append]
def outK{d:Nat}(key:ByteArray)(ts:List (TT d))(i:Nat):List KV:=(ts.take i).flatMap (fun c=>Z1h (Z0e d c) key)
theorem V0i{d:Nat}(key:ByteArray)(ts:List (TT d))(i:Nat)(c:TT d)(hc:ts[i]? =some c):outK key ts (i+1)=outK key ts i++Z1h (Z0e d c) key:=by
 unfold outK
 rw[List.take_add_one,hc,List.flatMap_append]
 simp
theorem V0h{d:Nat}{t:TT (d+1)}(h:okT (d+1) t)(key:ByteArray):outK key (InT.kids t) (Z0g (InT.keys t) key)= []:=by
 have:=(Y6h (t:=t) h key).1
 unfold outK
 rw[←Z8m]
 exact Z7f (fun x hx=>by rw[this x hx];rfl)
theorem V5p{d:Nat}(key:ByteArray)(t:TT (d+1)):outK key (InT.kids t) (InT.kids t).length=Z1h (Z0e (d+1) t) key:=by
 unfold outK
 rw[List.take_length,←Z8m]
 rfl
theorem X3v{d:Nat}(key:ByteArray)(ts:List (TT d)){i j:Nat}(h:i≤j):outK key ts i <+: outK key ts j:=by
 unfold outK
 obtain⟨r,hr⟩:=List.take_prefix_take_left (l:=ts) h
 rw[←hr,List.flatMap_append]
 exact List.prefix_append _ _
def Z3h(d:Nat)(t:TT d):Nat:=(Z0a d t).length
def Z4d{d:Nat}(ts:List (TT d))(i:Nat):Nat:=((ts.drop i).map (Z3h d)).sum
theorem Y3n{d:Nat}(ts:List (TT d))(i:Nat)(c:TT d)(hc:ts[i]? =some c):Z4d ts i=Z3h d c+Z4d ts (i+1):=by
 obtain⟨h,rfl⟩:=List.getElem?_eq_some_iff.1 hc
 unfold Z4d
 rw[List.drop_eq_getElem_cons h,List.map_cons,List.sum_cons]
theorem Y9v{d:Nat}(ts:List (TT d)):∀i,Z4d ts i≤Z4d ts 0
 | 0=>Nat.le_refl _
 | i+1=>by
   have ih:=Y9v ts i
   cases h:ts[i]? with
   | none=>
     have h1:=List.getElem?_eq_none_iff.1 h
     unfold Z4d
     rw[List.drop_eq_nil_of_le (by omega)]
     exact Nat.zero_le _
   | some c=>have:=Y3n ts i c h;omega
theorem Y9u{d:Nat}(t:TT (d+1)):Z3h (d+1) t=1+Z4d (InT.kids t) 0:=by
 unfold Z3h Z4d
 show(InT.at_ t::(InT.kids t).flatMap (Z0a d)).length=_
 rw[List.length_cons,List.length_flatMap,List.drop_zero]
 have:(fun a=>(Z0a d a).length)=Z3h d:=rfl
 rw[this];omega
def V3t(wb t l p i:Nat)(S:StoreD)(K:Nat→Prop)(key:ByteArray)(lf:Nat)(F G:Nat→Prop)(J Jx:List KV→(Nat→Prop)→World→Prop)(pre out:List KV)(w:World)(e:Ending)(w':World):Prop:=
 ∃(lf':Nat) (F2 G2:Nat→Prop),lf≤lf'∧lf'≤2000∧ItT p t i S K F2 w'∧Dis F2 G2 w'∧Keeps (fun i=>Un F G i∨i=wb) (fun i=>Un F2 G2 i∨i=wb) w w'∧Z3e w' wb t l key lf'∧¬Un F2 G2 wb∧
  ((e= .returned (.bool true)∧J (pre++out) G2 w')∨(e= .returned (.bool false)∧∃q,q <+: out∧Jx (pre++q) G2 w'))
structure InnS (wb p t i l:Nat) (S:StoreD) (K:Nat→Prop) (key:ByteArray) (lv:Nat) (J:List KV→(Nat→Prop)→World→Prop) (F G:Nat→Prop) (wa:World) (pre:List KV) (Fr Gr:Nat→Prop) (wr:World):Prop where
 it:ItT p t i S K Fr wr
 dis:Dis Fr Gr wr
 keep:Keeps (fun i=>Un F G i∨i=wb) (fun i=>Un Fr Gr i∨i=wb) wa wr
 row:Z3e wr wb t l key lv
 nwb:¬Un Fr Gr wb
 j:J pre Gr wr
theorem X5h{t p i d0:Nat}{F G K:Nat→Prop}{S:StoreD}{J Jx:List KV→(Nat→Prop)→World→Prop}{Ok:List KV→KV→Prop}(l wb D lf lfz:Nat)(key:ByteArray)(T:TT (d0+1))(pre:List KV)(w:World)
 (hit:ItT p t i S K F w)(hdis:Dis F G w)(hwb:Z3e w wb t l key ((lf+1:Nat):Int))(hnw:¬Un F G wb)(hon:onT S (d0+1) T)(hok:okT (d0+1) T)(jH:D≤1000)(hJ:Z5t J)
 (hOk:∀q x,q++ [x] <+: Z1h (Z0e (d0+1) T) key→Ok (pre++q) x)(h0:J pre G w)(hlz:lfz+Z4d (InT.kids T) 0≤lf)(hlf:lf<2000)
 (hIH:∀(F G:Nat→Prop) (pre:List KV) (w:World) (c:TT d0) (lf:Nat),c∈InT.kids T→ItT p t i S K F w→Dis F G w→Z3e w wb t l key ((lf+Z3h d0 c:Nat):Int)→¬Un F G wb→J pre G w→(∀q x,q++ [x] <+: Z1h (Z0e d0 c) key→Ok (pre++q) x)→lf+Z3h d0 c≤2000→
    Calls Tryz.prog 133 #[.pointer (some ⟨wb,0,none⟩),.int .i64 (atT d0 c),.int .i64 D] w (V3t wb t l p i S K key lf F G J Jx pre (Z1h (Z0e d0 c) key) w)):
  Calls Tryz.prog 133 #[.pointer (some ⟨wb,0,none⟩),.int .i64 (InT.at_ T),.int .i64 ((D+1:Nat):Int)] w (V3t wb t l p i S K key lfz F G J Jx pre (Z1h (Z0e (d0+1) T) key) w):=by
 have hkid:=Y7o (S:=S) hon.2 (by have:=hit.1.most;exact this)
 have hpg:=Z3t (d0+1) T hon
 have hmany:=hpg.ok.many
 have hkl:(InT.kids T).length=(InT.keys T).length+1:=hok.2.1
 have hj:=Z4g (k:=key) hok.1
 have HOUT0:Hid (outK key (InT.kids T) (Z0g (InT.keys T) key)= []):=V0h hok key
 have HOUTC:Hid (outK key (InT.kids T) (InT.kids T).length=Z1h (Z0e (d0+1) T) key):=V5p key T
 have HOUTS:Hid (∀i c,(InT.kids T)[i]? =some c→outK key (InT.kids T) (i+1)=outK key (InT.kids T) i++Z1h (Z0e d0 c) key):=fun i c q=>V0i key _ i c q
 have HNS:Hid (∀i c,(InT.kids T)[i]? =some c→Z4d (InT.kids T) i=Z3h d0 c+Z4d (InT.kids T) (i+1)):=fun i c q=>Y3n _ i c q
 have HNJ:Hid (lfz+Z4d (InT.kids T) (Z0g (InT.keys T) key)≤lf):=hD (by have:=Y9v (InT.kids T) (Z0g (InT.keys T) key);omega)
 have HKIDS:Hid (∀W G kv vv cv,NodeAs W G (Z0c (d0+1) T) kv vv cv→∃cb cc,cv= .slice (some ⟨cb,0,none⟩) (InT.kids T).length cc∧G cb∧cb<W.heap.size∧∀i c,(InT.kids T)[i]? =some c→W.cell? ⟨cb,i,none⟩=some (.int .i64 (atT d0 c))):=fun W G kv vv cv q=>by
  have hl:(Z0c (d0+1) T).kids.length=(InT.kids T).length:=List.length_map _
  obtain⟨cb,cc,hcv,hcb,_⟩:=Z6f q.kids 0 (by rw[hl];omega)
  rw[hl]at hcv
  refine⟨cb,cc,hcv,q.fc cb (by rw[hcv];rfl),hcb,fun i c hc=> ?_⟩
  have hi:=(List.getElem?_eq_some_iff.1 hc).1
  obtain⟨cb',cc',hcv',_,hcell⟩:=Z6f q.kids i (by rw[hl];exact hi)
  rw[hcv]at hcv'
  injection hcv' with e1 e2 e3
  injection e1 with e1
  injection e1 with e1
  subst e1
  rw[hcell]
  show some (Value.int .i64 ((((InT.kids T).map fun c=>(atT d0 c:Int))[i]?).getD 0))=_
  rw[List.getElem?_map,hc];rfl
 have HDN0:Hid (∀W kv vv cv G,NodeAs W G (Z0c (d0+1) T) kv vv cv→Calls Tryz.prog 188 #[.agg #[.bool false,kv,vv,cv],.string key] W fun e w'=>e= .returned (.int .i64 (Z0g (InT.keys T) key))∧Ext W w'):=fun W kv vv cv G q=>Y2j key W q hok.1 (by show(InT.keys T).length≤1000000;have:(Z0c (d0+1) T).keys=InT.keys T:=rfl;rw[this]at hmany;omega)
 have HIT:=hD hit
 obtain⟨h1,h2,h3,_⟩:=hit
 have hne:t≠wb:=Row1.apart h2 hwb (by decide)
 have hG0:¬G wb:=fun q=>hnw (.inr q)
 have hF0:¬F wb:=fun q=>hnw (.inl q)
 obtain⟨lv,hlv⟩:∃lv:Nat,lf+1=lv:=⟨_,rfl⟩
 rw[hlv]at hwb
 have T1:IntKind.i64.wrap ((lv:Int)-1)=(lf:Int):=by rw[IntKind.wrap_i64];omega
 have T2:decide ((lf:Int)<0)=false:=decide_eq_false (by omega)
 obtain⟨dv,hdv⟩:∃dv:Nat,D+1=dv:=⟨_,rfl⟩
 rw[hdv]
 have T3:((dv:Int)==0)=false:=by simp;omega
 have T4:(dv:Int)-1=(D:Int):=by omega
 have HT4:=hD T4
 have T5:dv≤1001:=by omega
 have T6:0<dv:=by omega
 have z3:w.cell? ⟨wb,3,none⟩=some (.int .i64 lv):=hwb.cell 3
 have y3:w.frozen? ⟨wb,3,none⟩=false:=hwb.soft 3
 have hoA:Only (fun j=>j=wb) w (w.setCell ⟨wb,3,none⟩ (.int .i64 lf)):=Y4w w wb 3 _
 have hwA:Z3e (w.setCell ⟨wb,3,none⟩ (.int .i64 lf)) wb t l key lf:=hwb.set 3 _
 have x0:(w.setCell ⟨wb,3,none⟩ (.int .i64 lf)).cell? ⟨wb,0,none⟩=some (.pointer (some ⟨t,0,none⟩)):=hwA.cell 0
 have htA:Z0b (w.setCell ⟨wb,3,none⟩ (.int .i64 lf)) t p i:=hoA.row h2 (fun q=>hne q)
 have cL:=Z1k (InT.at_ T) (Z0c (d0+1) T) (w.setCell ⟨wb,3,none⟩ (.int .i64 lf)) htA (h1.only hoA (fun j q q'=>by subst q';exact hF0 q)) hpg
 rw[show (Z0c (d0+1) T).leaf=false from rfl]at cL
 have HWA:=hD hwA
 have HTA:=hD htA
 have HOA:=hD hoA
 have HD:=hD hdis
 have HNW:=hD hnw
 have HJ:=hD hJ
 have HOK:=hD hOk
 have H0:=hD h0
 have HNT:=hD h3
 have HIH:=hD hIH
 have HSA:Hid ((w.setCell ⟨wb,3,none⟩ (.int .i64 lf)).heap.size=w.heap.size):=Z1y _ _ _
 have HWL:=hD hwb.lt
 have HTL:=hD h2.lt
 have HTW:Hid (¬t=wb):=hne
 have HCN:Hid ((InT.kids T).length≤256):=hD (by have h8:(Z0c (d0+1) T).keys=InT.keys T:=rfl;rw[h8]at hmany;omega)
 have HJC:Hid (Z0g (InT.keys T) key≤(InT.kids T).length):=hD (by omega)
 have HLF:=hD hlf
 generalize hnode:Z0c (d0+1) T=n at *
 generalize hata:InT.at_ T=a at *
 generalize hdn:Z0g (InT.keys T) key=dn at *
 obtain⟨C,hC⟩:∃C,(InT.kids T).length=C:=⟨_,rfl⟩
 rw[hC]at HKIDS HCN HJC HOUTC
 have HC:=hD hC
 clear h1 h2 h3 hdis hwb hnw hon hok jH hJ hOk h0 hlf hlv hoA hwA htA hG0 hF0 hIH hkid hpg hmany hkl hj hlz hdv hnode hata hdn hC T4
 go_enter Tryz.func133,Tryz.ntmps133
 go_upto_region 6 with (first
  | (go_at_call 186;(with_reducible refine cL.mono ?_);clear cL;rintro e w2 ⟨kA,kn,kc,vA,vn,vc,cA,cn,cc,B,F1,rfl,hn1,hp1,hk1,hB,hF1,hBW⟩
     have HW2:Hid (Z3e w2 wb t l key lf):=hk1.only.row HWA.out (fun q=>HNW.out (.inl q))
     have x3:(w2.alloc (.cells #[.bool false,.slice kA kn kc,.slice vA vn vc,.slice cA cn cc] 257)).cell? ⟨wb,3,none⟩=some (.int .i64 lf):=(Row1.alloc HW2.out _).cell 3
     have HN1:=hD hn1;have HP1:=hD hp1;have HK1:=hD hk1;have HB:=hD hB;have HF1:=hD hF1;have HBW:=hD hBW
     clear hn1 hp1 hk1 hB hF1 hBW))
 obtain⟨cb,cc9,hcv,hcbB,hcbl,hcells⟩:=HKIDS.out _ _ _ _ _ HN1.out
 injection hcv with e1 e2 e3
 subst e1 e2
 obtain⟨wa,hwa⟩:∃wa,w2.alloc (.cells #[.bool false,.slice kA kn kc,.slice vA vn vc,.slice (some ⟨cb,0,none⟩) cn cc] 257)=wa:=⟨_,rfl⟩
 rw[hwa]
 have hxa:Ext w2 wa:=hwa▸Ext.alloc _ _
 have hra:Row1 wa w2.heap.size 257 [.bool false,.slice kA kn kc,.slice vA vn vc,.slice (some ⟨cb,0,none⟩) cn cc]:=hwa▸Row1.made w2 _ _
 have hsz2:=HK1.out.only.size
 rw[HSA.out]at hsz2
 have HBW':Hid (w.heap.size≤B):=by have:=HB.out;rw[HSA.out]at this;exact this
 have HUN:Hid (∀b,B≤b∨b=wb→¬Un F1 G b):=fun b q=>by
  rcases q with q | q
  ·exact fun r=>r.elim (fun r=>by have:=HF1.out b r;omega) (fun r=>by have:=(HD.out.2 b r).1;have:=HBW'.out;omega)
  ·subst q
   exact fun r=>r.elim (fun r=>HK1.out.out (by rw[HSA.out];exact HWL.out) (fun q=>HNW.out (.inl q)) r) (fun r=>HNW.out (.inr r))
 have HUB:Hid (∀b,B≤b→¬(Un F1 G b∨b=wb)):=fun b q r=>r.elim (HUN.out b (.inl q)) (fun r=>by have:=HWL.out;have:=HBW'.out;omega)
 have hita:ItT p t i S K F1 wa:=((HIT.out.only HOA.out (fun j q q'=>by subst q';exact HNW.out (.inl q)) (fun q=>HTW.out q)).keeps HP1.out HK1.out).ext hxa
 have hdisa:Dis F1 G wa:=⟨fun i q=>by have:=HF1.out i q;have:=HBW.out;have:=hxa.size;omega,fun i q=>⟨by have:=(HD.out.2 i q).1;have:=hxa.size;omega,fun r=>by
  rcases HK1.out.new i r with s | s
  ·exact(HD.out.2 i q).2 s
  ·rw[HSA.out]at s;have:=(HD.out.2 i q).1;omega⟩⟩
 have hoa:Only (fun i=>¬G i) w wa:=((HOA.out.mono (fun i q=> .inl (fun r=>by subst q;exact HNW.out (.inr r)))).trans' (HK1.out.only.mono (fun i q=> .inl (fun r=>(HD.out.2 i r).2 q)))).ext hxa
 have hja:J pre G wa:=HJ.out _ _ _ _ H0.out (fun i q=>(HD.out.2 i q).1) hoa
 have HS0:Hid (∀W,Ext wa W→InnS wb p t i l S K key lf J F1 G wa (pre++outK key (InT.kids T) dn) F1 G W):=fun W hW=>
  ⟨hita.ext hW,⟨fun i q=>Nat.lt_of_lt_of_le (hdisa.1 i q) hW.size,fun i q=>⟨Nat.lt_of_lt_of_le (hdisa.2 i q).1 hW.size,(hdisa.2 i q).2⟩⟩,Keeps.of hW,(HW2.out.ext hxa HW2.out.lt).ext hW (Nat.lt_of_lt_of_le HW2.out.lt hxa.size),HUN.out wb (.inr rfl),by rw[HOUT0.out,List.append_nil];exact HJ.out _ _ _ _ hja (fun i q=>(hdisa.2 i q).1) (Only.of hW)⟩
 have HRA:=hD hra
 have HXA:=hD hxa
 have HKWA:Hid (Keeps (fun i=>Un F G i∨i=wb) (fun i=>Un F1 G i∨i=wb) w wa):=⟨((HOA.out.mono (fun i q=> .inl (.inr q))).trans' (HK1.out.only.mono (fun i q=> .inl (.inl (.inl q))))).ext hxa,fun i q=>by
  rcases q with (q | q) | q
  ·rcases HK1.out.new i q with r | r
   ·exact .inl (.inl (.inl r))
   ·rw[HSA.out]at r;exact .inr r
  ·exact .inl (.inl (.inr q))
  ·exact .inl (.inr q)⟩
 have HNA:Hid (NodeAs wa (fun i=>B≤i) n (.slice kA kn kc) (.slice vA vn vc) (.slice (some ⟨cb,0,none⟩) cn cc)):=HN1.out.ext hxa
 have HCB:Hid (B≤cb∧cb<wa.heap.size):=⟨hcbB,Nat.lt_of_lt_of_le hcbl hxa.size⟩
 have HCELL:Hid (∀i c,(InT.kids T)[i]? =some c→wa.cell? ⟨cb,i,none⟩=some (.int .i64 (atT d0 c))):=fun i c hc=>(hxa.cell (p:=⟨cb,i,none⟩) hcbl).trans (hcells i c hc)
 have HKS:Hid (∀W,Ext wa W→W.cell? ⟨wb,1,none⟩=some (.string key)∧W.cell? ⟨w2.heap.size,0,none⟩=some (.bool false)∧W.cell? ⟨w2.heap.size,1,none⟩=some (.slice kA kn kc)∧W.cell? ⟨w2.heap.size,2,none⟩=some (.slice vA vn vc)∧W.cell? ⟨w2.heap.size,3,none⟩=some (.slice (some ⟨cb,0,none⟩) cn cc)):=fun W hW=>by
  have r1:=(HS0.out W hW).row
  have r2:=HRA.out.ext hW HRA.out.lt
  exact⟨r1.cell 1,r2.cell 0,r2.cell 1,r2.cell 2,r2.cell 3⟩
 clear hwa hxa hra hita hdisa hoa hja hsz2 hcbB hcbl hcells e3 x3
 refine wp_region_held_drew (S:=fun W=>W.cell? ⟨wb,1,none⟩=some (.string key)∧W.cell? ⟨w2.heap.size,0,none⟩=some (.bool false)∧W.cell? ⟨w2.heap.size,1,none⟩=some (.slice kA kn kc)∧W.cell? ⟨w2.heap.size,2,none⟩=some (.slice vA vn vc)∧W.cell? ⟨w2.heap.size,3,none⟩=some (.slice (some ⟨cb,0,none⟩) cn cc)) (by kernel_rfl) (HKS.out _ (by exact Xt)) (fun hHeld=> ?_)
 refine' tk 0 ?_
 refine' tk 1 ?_
 refine' tk 2 ?_
 refine' tk 3 ?_
 refine' tk 4 ?_
 refine stp 5 (fun K hK=> ?_);go_simp
 (with_reducible refine(HDN0.out _ _ _ _ _ (HNA.out.ext ?_)).mono ?_)
 ·exact Xt
 rintro e w4 ⟨rfl,hb4⟩
 have HB4:Hid (Ext wa w4):=Ext.trans (by exact Xt) hb4
 clear hb4
 (try dsimp only)
 (try go_simp)
 refine hK.out _ _ (HKS.out _ HB4.out) (fun hHeld=> ?_)
 clear hK K
 refine pt ?_
 refine' tk 6 ?_
 refine wpAnyH_done (by kernel_rfl) ?_ _
 have HS4:=hD (HS0.out w4 HB4.out)
 go_wp2_with fail
 go_loopw [9] (fun x wr=>∃(q lv:Nat) (Fr Gr:Nat→Prop),dn≤q∧q≤cn∧x= .int .i64 q∧lv≤2000∧Hid (lfz+Z4d (InT.kids T) q≤lv)∧Hid (InnS wb p t i l S K key lv J F1 G wa (pre++outK key (InT.kids T) q) Fr Gr wr)) (fun x _=>cn-(intOf x).toNat)
 case atStart=>exact⟨dn,lf,F1,G,Nat.le_refl _,HJC.out,rfl,by have:=HLF.out;omega,HNJ,HS4⟩
 case round=>
  obtain⟨q,lv9,Fr,Gr,hq1,hq2,rfl,hlv9,hns,hs⟩:=hrel
  have hrw:Row1 wr w2.heap.size 257 [.bool false,.slice kA kn kc,.slice vA vn vc,.slice (some ⟨cb,0,none⟩) cn cc]:=hs.out.keep.only.row HRA.out (HUB.out _ HBW.out)
  have x3:wr.cell? ⟨w2.heap.size,3,none⟩=some (.slice (some ⟨cb,0,none⟩) cn cc):=hrw.cell 3
  have hqb:q≤256:=by have:=HCN.out;omega
  clear hrw
  by_cases hqc:q<cn
  ·have q1:decide ((q:Int)<(cn:Int))=true:=decide_eq_true (by omega)
   have q2:(q:Int)<(cn:Int):=by omega
   obtain⟨c,hc⟩:∃c,(InT.kids T)[q]? =some c:=⟨_,List.getElem?_eq_getElem (by have:=HC.out;omega)⟩
   have x4:wr.cell? ⟨cb,q,none⟩=some (.int .i64 (atT d0 c)):=(World.cell?_of_block (hs.out.keep.only.block cb HCB.out.2 (HUB.out cb HCB.out.1))).trans (HCELL.out q c hc)
   have hn9:=HNS.out q c hc
   have ho9:=HOUTS.out q c hc
   obtain⟨lx,hlx⟩:∃lx,lx+Z3h d0 c=lv9:=⟨lv9-Z3h d0 c,by have:=hns.out;omega⟩
   have hrow9:=hs.out.row
   rw[←hlx]at hrow9
   have cW:=HIH.out Fr Gr (pre++outK key (InT.kids T) q) wr c lx (List.mem_of_getElem? hc) hs.out.it hs.out.dis hrow9 hs.out.nwb hs.out.j (fun r x hr=>by
    have h1:outK key (InT.kids T) q++(r++ [x]) <+: Z1h (Z0e (d0+1) T) key:=by
     have h2:outK key (InT.kids T) (q+1) <+: Z1h (Z0e (d0+1) T) key:=by rw[←HOUTC.out];exact X3v key _ (by omega)
     rw[ho9]at h2
     exact((List.prefix_append_right_inj _).2 hr).trans h2
    have:=HOK.out (outK key (InT.kids T) q++r) x (by rw[List.append_assoc];exact h1)
    rw[List.append_assoc];exact this) (by omega)
   rw[←HT4.out]at cW
   have HN9:=hD hn9
   have HO9:=hD ho9
   have HLX:=hD hlx
   clear hn9 ho9 hlx hc hrow9
   go_upto_if 66 with (first
    | (go_at_call 133;refine cW.mono ?_;clear cW;rintro e w8 ⟨lf',F8,G8,p0,p00,p1,p2,p3,p4,p5,p6⟩
       obtain⟨yb,rfl,p7⟩:∃yb:Bool,e= .returned (.bool yb)∧((yb=true∧J (pre++outK key (InT.kids T) q++Z1h (Z0e d0 c) key) G8 w8)∨(yb=false∧∃r,r <+: Z1h (Z0e d0 c) key∧Jx (pre++outK key (InT.kids T) q++r) G8 w8)):=by
        rcases p6 with ⟨rfl,r⟩ | ⟨rfl,r⟩
        ·exact⟨true,rfl,.inl ⟨rfl,r⟩⟩
        ·exact⟨false,rfl,.inr ⟨rfl,r⟩⟩
       have P0:=hD p0;have P00:=hD p00;have P1:=hD p1;have P2:=hD p2;have P3:=hD p3;have P4:=hD p4;have P5:=hD p5;have P7:=hD p7
       clear p0 p00 p1 p2 p3 p4 p5 p6 p7))
   have HK8:Hid (Keeps (fun i=>Un F1 G i∨i=wb) (fun i=>Un F8 G8 i∨i=wb) wa w8):=Keeps.trans hs.out.keep P3.out
   cases yb with
   | true=>
     have hj8:J (pre++outK key (InT.kids T) (q+1)) G8 w8:=by
      rcases P7.out with ⟨_,r⟩ | ⟨r,_⟩
      ·rw[HO9.out,←List.append_assoc];exact r
      ·cases r
     have HNX:Hid (InnS wb p t i l S K key lf' J F1 G wa (pre++outK key (InT.kids T) (q+1)) F8 G8 w8):=⟨P1.out,P2.out,HK8.out,P4.out,P5.out,hj8⟩
     have HNL:Hid (lfz+Z4d (InT.kids T) (q+1)≤lf'):=hD (by have:=hns.out;have:=HN9.out;have:=HLX.out;have:=P0.out;omega)
     have HLF':lf'≤2000:=P00.out
     clear hj8
     simp only[Bool.not_true]
     go_wp2_with fail
     go_roundw
     case rel=>exact⟨q+1,lf',F8,G8,by omega,by omega,by go_num,HLF',HNL,HNX⟩
     case measure=>simp only[intOf];omega
   | false=>
     have HDN:Hid (V3t wb t l p i S K key lfz F G J Jx pre (Z1h (Z0e (d0+1) T) key) w (.returned (.bool false)) w8):=by
      refine⟨lf',F8,G8,by have:=hns.out;have:=HN9.out;have:=HLX.out;have:=P0.out;omega,P00.out,P1.out,P2.out,Keeps.trans HKWA.out HK8.out,P4.out,P5.out,.inr ⟨rfl,?_⟩⟩
      rcases P7.out with ⟨r,_⟩ | ⟨_,r,hr,hjx⟩
      ·cases r
      ·refine⟨outK key (InT.kids T) q++r,?_,by rw[←List.append_assoc];exact hjx⟩
       have h2:outK key (InT.kids T) (q+1) <+: Z1h (Z0e (d0+1) T) key:=by rw[←HOUTC.out];exact X3v key _ (by omega)
       rw[HO9.out]at h2
       exact((List.prefix_append_right_inj _).2 hr).trans h2
     simp only[Bool.not_false]
     go_wp2_with fail
     go_ret
     exact HDN.out
  ·obtain rfl:q=cn:=by omega
   have q1:decide ((q:Int)<(q:Int))=false:=decide_eq_false (by omega)
   have HDN:Hid (V3t wb t l p i S K key lfz F G J Jx pre (Z1h (Z0e (d0+1) T) key) w (.returned (.bool true)) wr):=by
    refine⟨lv9,Fr,Gr,by have:=hns.out;omega,hlv9,hs.out.it,hs.out.dis,Keeps.trans HKWA.out hs.out.keep,hs.out.row,hs.out.nwb,.inl ⟨rfl,?_⟩⟩
    rw[←HOUTC.out];exact hs.out.j
   clear hs
   go_wp2_with fail
   go_ret
   exact HDN.out
theorem X8g{t p i:Nat}{K:Nat→Prop}{S:StoreD}{J Jx:List KV→(Nat→Prop)→World→Prop}{Ok:List KV→KV→Prop}(l wb:Nat)(key:ByteArray)(hJ:Z5t J)(hY:X2p Tryz.prog l (ItT p t i S K) J Jx Ok)(d:Nat):
  ∀(F G:Nat→Prop) (D:Nat) (T:TT d) (pre:List KV) (w:World) (lf:Nat),ItT p t i S K F w→Dis F G w→Z3e w wb t l key ((lf+Z3h d T:Nat):Int)→¬Un F G wb→onT S d T→okT d T→J pre G w→(∀q x,q++ [x] <+: Z1h (Z0e d T) key→Ok (pre++q) x)→lf+Z3h d T≤2000→d<D→D≤1000→
   Calls Tryz.prog 133 #[.pointer (some ⟨wb,0,none⟩),.int .i64 (atT d T),.int .i64 D] w (V3t wb t l p i S K key lf F G J Jx pre (Z1h (Z0e d T) key) w):=by
 induction d with
 | zero=>
   intro F G D T pre w lf hit hdis hwb hnw hon hok h0 hOk hlf hd jH
   have ho:outL (Z0c 0 T) key (Z0c 0 T).keys.length=Z1h (Z0e 0 T) key:=by
    unfold outL Z1h
    have hv:(LeafT.vals T).length=(LeafT.keys T).length:=hok.2.1
    rw[List.take_of_length_le (by rw[List.length_zip];exact Nat.min_le_left _ _)]
    rfl
   have hn1:Z3h 0 T=1:=rfl
   rw[hn1]at hwb hlf
   refine(X8f (Ok:=Ok) l wb (LeafT.at_ T) D lf key (Z0c 0 T) pre w hit hdis hwb hnw hon rfl hd hJ hY (fun q x r=>hOk q x (by rw[←ho];exact r)) h0 (by omega)).mono ?_
   rintro e w' ⟨F2,G2,r1,r2,r3,r4,r5,r6⟩
   rw[ho]at r6
   exact⟨lf,F2,G2,Nat.le_refl _,by omega,r1,r2,r3,r4,r5,r6⟩
 | succ d ih=>
   intro F G D T pre w lf hit hdis hwb hnw hon hok h0 hOk hlf hd jH
   obtain⟨D',rfl⟩:∃D',D=D'+1:=⟨D-1,by omega⟩
   have hn1:=Y9u T
   rw[show lf+Z3h (d+1) T=(lf+Z4d (InT.kids T) 0)+1 by omega]at hwb
   exact X5h (Ok:=Ok) l wb D' (lf+Z4d (InT.kids T) 0) lf key T pre w hit hdis hwb hnw hon hok (by omega) hJ hOk h0 (Nat.le_refl _) (by omega) (fun F G pre w c lf hc q1 q2 q3 q4 q5 q6 q7=>ih F G D' c pre w lf q1 q2 q3 q4 (hon.2 c hc) (hok.2.2.2.1 c hc) q5 q6 q7 (by omega) (by omega))
end Go.Proofs.YtmiolpfanlpfnaaGreat
