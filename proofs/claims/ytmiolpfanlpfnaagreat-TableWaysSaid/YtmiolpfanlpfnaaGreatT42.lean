/- table.Delete and table.Put of a table: which pages they soil. Conditions: a table's trees, room. -/
import Derived.Test.YtmiolpfanlpfnaaGreatT41
set_option maxRecDepth 100000
set_option maxHeartbeats 4000000
set_option linter.unusedSimpArgs false
set_option linter.unusedVariables false
namespace Go.Proofs.YtmiolpfanlpfnaaGreat
section
open Go.RowKit
theorem V6z(ts:Nat→Nat)(w:World){k:Nat}(hk:k<5):Sem.run Tryz.prog (Instr.index 117 (.agg #[tp (ts 0),tp (ts 1),tp (ts 2),tp (ts 3),tp (ts 4)]) (.int .i64 (k:Nat))) w= .ok (tp (ts k)) w:=by
 rcases(show k=0∨k=1∨k=2∨k=3∨k=4 from by omega)with rfl | rfl | rfl | rfl | rfl
 ·exact X8k ts w
 ·exact X8j ts w
 ·exact X8i ts w
 ·exact X8h ts w
 ·exact X8g ts w
structure DelZ (tb p:Nat) (ts:Nat→Nat) (A:StoreD) (Ts0:Nat→TrD) (L:Nat→List OpD) (o:OpD) (R:Nat) (F0:Nat→Prop) (w:World) (k:Nat) (wr:World) (S:StoreD) (Ts:Nat→TrD) (F:Nat→Prop):Prop extends DelK tb p ts Ts0 L o R F0 w k wr S Ts F where
 soil:∀n C,Soil n C A→Soil n C S
theorem X4s{tb p:Nat}{ts:Nat→Nat}{F:Nat→Prop}{S0:StoreD}{Ts0:Nat→TrD}{L:Nat→List OpD}(o:OpD)(w:World)(ht:TblAt w tb p ts F)(hp:PagerAt w p F S0)
 (hT:Tab S0 Ts0 L)(ho:∀i,i<5→o∈L i)(hd:∀i,i<5→depT (Ts0 i)≤31):
  Calls Tryz.prog 59 #[.pointer (some ⟨tb,0,none⟩),.int .i64 o.id] w fun e w'=>e= .returned (.int .i64 0)∧∃S' Ts' F',DelZ tb p ts S0 Ts0 L o (Z0z S0) F w 5 w' S' Ts' F':=by
 have hck:=hT.ok 0 (by omega) o (ho 0 (by omega))
 have hin:=OpIn.of hck
 have cG:Calls Tryz.prog 60 #[.pointer (some ⟨tb,0,none⟩),.int .i64 o.id] w fun e w'=>e= .returned (.tuple #[.agg #[.int .i64 o.id,.int .i64 o.proc,.int .i64 o.object,.int .i64 o.kind,.int .i64 o.method,.int .i64 o.arg,.int .i64 o.second,.bool o.done,.int .i64 o.result,.int .i64 o.invoke,.int .i64 o.ret],.int .i64 0])∧∃F',TblAt w' tb p ts F'∧PagerAt w' p F' S0∧Keeps F F' w w'∧∀i,F' i→i<w'.heap.size:=by
  have h1:=Z9t o.id w ht hp hT (hd 0 (by omega)) (by have:=hin.id;unfold In64;omega)
  rw[V0y (hT.ids 0 (by omega)) (ho 0 (by omega))]at h1
  refine h1.mono ?_
  rintro e w' ⟨rfl,F',q1,q2,q3⟩
  exact⟨rfl,fun i=>F' i∧i<w'.heap.size,⟨q1.row,q1.tree,fun q=>q1.out q.1,fun j hj q=>q1.outs j hj q.1⟩,q2.shrink,q3.shrink,fun i q=>q.2⟩
 have cW:Hid (∀i W,i<5→Calls Tryz.prog 120 #[.int .i64 (i:Nat),.agg #[.int .i64 o.id,.int .i64 o.proc,.int .i64 o.object,.int .i64 o.kind,.int .i64 o.method,.int .i64 o.arg,.int .i64 o.second,.bool o.done,.int .i64 o.result,.int .i64 o.invoke,.int .i64 o.ret]] W fun e w'=>e= .returned (.string (wayK i o))∧Ext W w'):=fun i W hi=>Z8m i o W hi (hin.way i)
 have HO:=hD ho
 have HD:=hD hd
 have HTAB:=hD hT
 generalize hR:Z0z S0=R at *
 have HRR:Hid (Z0z S0=R):=hR
 clear hd hT hR ht hp hin ho hck
 have cDel:Hid (∀(F0:Nat→Prop) (W0:World) k,k<5→∀(W wr:World) (S1:StoreD) (Ts1:Nat→TrD) (F1:Nat→Prop),DelZ tb p ts S0 Ts0 L o R F0 W0 k wr S1 Ts1 F1→Ext wr W→Calls Tryz.prog 124 #[.pointer (some ⟨ts k,0,none⟩),.string (wayK k o)] W fun e w'=>e= .returned (.int .i64 0)∧∃S' Ts' F',DelZ tb p ts S0 Ts0 L o R F0 W0 (k+1) w' S' Ts' F'):=fun F0 W0 k hk W wr S1 Ts1 F1 h hW=>by
  have hsame:=h.same k (Nat.le_refl _)
  have hdk:=HD.out k hk
  have hin:∃x∈(Ts1 k).list,x.1=wayK k o:=⟨_,(h.tab.mem k hk _).2 ⟨o,by rw[if_neg (Nat.lt_irrefl _)];exact HO.out k hk,rfl⟩,rfl⟩
  refine(V3a (Ts1 k) (wayK k o) W ((h.at_.ext hW).tree k hk) (h.at_.outs k hk) (h.pag.ext hW) h.tab.fm (by omega) (h.tab.tr k hk) (by rw[hsame];exact Z9j hdk) hin).mono ?_
  rintro e w' ⟨rfl,S',T',F',hp,hp',hkp⟩
  exact⟨rfl,S',_,F',⟨h.step hk (HO.out k hk) hp hp' ((Keeps.of hW).trans hkp),fun n C q=>(h.soil n C q).del (by omega) hp h.tab.fm (h.tab.tr k hk) hin⟩⟩
 go_enter Tryz.func59,Tryz.ntmps59
 go_upto_region 4 with (go_at_call 60;(with_reducible refine cG.mono ?_);clear cG;rintro e w1 ⟨rfl,F1,ht1,hp1,hk1,hl1⟩;have HT1:=hD ht1;have HP1:=hD hp1;have HK1:=hD hk1;have HL1:=hD hl1;clear ht1 hp1 hk1 hl1)
 generalize hB:w1.heap.size=B at *
 generalize hW2:World.alloc w1 _=W2
 have HX2:Hid (Ext w1 W2):=by unfold Hid;rw[←hW2];exact Ext.alloc _ _
 have HR0:Hid (Row1 W2 B 32 o.cells):=by unfold Hid;rw[←hW2,←hB];exact Row1.made w1 _ _
 have HLT:Hid (¬F1 B):=fun q=>by have:=HL1.out B q;omega
 have HWID:Hid (∀(F':Nat→Prop) (w':World),Keeps F1 F' W2 w'→Keeps F F' w w'):=fun F' w' h=>(HK1.out.ext HX2.out).trans h
 have HPK:Hid (DelZ tb p ts S0 Ts0 L o R F1 W2 0 W2 S0 Ts0 F1):=⟨⟨HT1.out.ext HX2.out,HP1.out.ext HX2.out,Keeps.refl,HTAB.out.congr (fun i _=>rfl) (fun i _=>rfl),fun i hi=>absurd hi (by omega),fun i _=>rfl,fun i=>Nat.le_refl _,fun i=>Nat.le_refl _,by rw[HRR.out]⟩,fun n C q=>q⟩
 have t0:W2.cell? ⟨tb,0,none⟩=some (tp (ts 0)):=HPK.out.at_.row.cell 0
 have t1:W2.cell? ⟨tb,1,none⟩=some (tp (ts 1)):=HPK.out.at_.row.cell 1
 have t2:W2.cell? ⟨tb,2,none⟩=some (tp (ts 2)):=HPK.out.at_.row.cell 2
 have t3:W2.cell? ⟨tb,3,none⟩=some (tp (ts 3)):=HPK.out.at_.row.cell 3
 have t4:W2.cell? ⟨tb,4,none⟩=some (tp (ts 4)):=HPK.out.at_.row.cell 4
 clear hW2 hB HK1 HL1 HT1 HP1 HX2
 go_wp2_with fail
 clear t0 t1 t2 t3 t4
 go_loopw [23] (fun x wr=>∃(k:Nat) (S1:StoreD) (Ts1:Nat→TrD) (F2:Nat→Prop),k≤5∧x= .int .i64 (k:Nat)∧DelZ tb p ts S0 Ts0 L o R F1 W2 k wr S1 Ts1 F2) (fun x _=>5-(intOf x).toNat)
 case atStart=>exact⟨0,S0,Ts0,F1,by omega,rfl,HPK.out⟩
 case round=>
  obtain⟨k,S1,Ts1,F2,hk,rfl,hpk⟩:=hrel
  have HP:=hD hpk
  clear hpk
  obtain⟨b0,b1,b2,b3,b4,b5,b6,b7,b8,b9,b10⟩:=At11.row (HP.out.keep.only.row HR0.out HLT.out)
  by_cases hk5:k=5
  ·subst hk5
   go_wp2_with fail
   go_ret
   have h1:=HP.out
   exact⟨rfl,S1,Ts1,F2,⟨h1.at_,h1.pag,HWID.out _ _ h1.keep,h1.tab,h1.done,h1.same,h1.dep,h1.less,h1.room⟩,h1.soil⟩
  ·have hk4:k<5:=by omega
   have q1:decide ((k:Int)<5)=true:=decide_eq_true (by omega)
   have q2:(k:Int)<5:=by omega
   have cP:Hid (∀W,Ext wr W→Calls Tryz.prog 124 #[.pointer (some ⟨ts k,0,none⟩),.string (wayK k o)] W fun e w'=>e= .returned (.int .i64 0)∧∃S' Ts' F',DelZ tb p ts S0 Ts0 L o R F1 W2 (k+1) w' S' Ts' F'):=fun W hW=>cDel.out _ _ k hk4 W wr S1 Ts1 F2 HP.out hW
   have cW1:Hid (∀W,Calls Tryz.prog 120 #[.int .i64 (k:Nat),.agg #[.int .i64 o.id,.int .i64 o.proc,.int .i64 o.object,.int .i64 o.kind,.int .i64 o.method,.int .i64 o.arg,.int .i64 o.second,.bool o.done,.int .i64 o.result,.int .i64 o.invoke,.int .i64 o.ret]] W fun e w'=>e= .returned (.string (wayK k o))∧Ext W w'):=fun W=>cW.out k W hk4
   generalize wayK k o=ky at cP cW1
   have hix:=V6z ts wr hk4
   generalize hTK:ts k=tk at cP hix
   clear cW cDel hTK hk5
   go_wp2_with (first
    | (go_at_call 120;(with_reducible refine(cW1.out _).mono ?_);clear cW1;rintro e w2 ⟨rfl,hb2⟩)
    | (go_at_call 124;(with_reducible refine(cP.out _ hb2).mono ?_);clear cP;rintro e w3 ⟨rfl,S3,Ts3,F3,hp3⟩;have HP3:=hD hp3;clear hp3))
   go_roundw
   case rel=>exact⟨k+1,S3,Ts3,F3,by omega,by go_num,HP3.out⟩
   case measure=>simp[intOf];omega
structure PutZ (tb p:Nat) (ts:Nat→Nat) (A:StoreD) (Ts0:Nat→TrD) (L:Nat→List OpD) (o:OpD) (R:Nat) (F0:Nat→Prop) (w:World) (k:Nat) (wr:World) (S:StoreD) (Ts:Nat→TrD) (F:Nat→Prop):Prop extends PutK tb p ts Ts0 L o R F0 w k wr S Ts F where
 soil:(∀i,i<5→Slim (Ts0 i))→∀n C,Soil n C A→Soil (n+Y9l Ts0 k) C S
theorem Y7z{tb p:Nat}{ts:Nat→Nat}{F:Nat→Prop}{S0:StoreD}{L:Nat→List OpD}(Q:StoreD→(Nat→TrD)→Prop)(o:OpD)(w:World)(ht:TblAt w tb p ts F)(hp:PagerAt w p F S0)(ho:Z2c o=0)
 (hdel:∀(W:World) (F1:Nat→Prop),TblAt W tb p ts F1→PagerAt W p F1 S0→Calls Tryz.prog 59 #[.pointer (some ⟨tb,0,none⟩),.int .i64 o.id] W fun e w'=>∃ev S Ts0,(ev=0∨ev=6)∧e= .returned (.int .i64 ev)∧Q S Ts0∧∃F',TblAt w' tb p ts F'∧PagerAt w' p F' S∧Keeps F1 F' W w')
 (hQ:∀S Ts0,Q S Ts0→Tab S Ts0 L∧(∀i,i<5→depT (Ts0 i)≤31)∧Z4n Ts0 5≤Z0z S)(hno:∀i,i<5→∀x∈L i,x.id≠o.id):
  Calls Tryz.prog 55 #[.pointer (some ⟨tb,0,none⟩),o.val] w fun e w'=>e= .returned (.int .i64 0)∧∃S Ts0,Q S Ts0∧∃S' Ts' F',PutZ tb p ts S Ts0 L o (Z0z S) F w 5 w' S' Ts' F':=by
 have hin:=OpIn.of ho
 have HOK:=hD ho
 obtain⟨W0,hW0⟩:∃W0,w.alloc (.cells #[.int .i64 o.id,.int .i64 o.proc,.int .i64 o.object,.int .i64 o.kind,.int .i64 o.method,.int .i64 o.arg,.int .i64 o.second,.bool o.done,.int .i64 o.result,.int .i64 o.invoke,.int .i64 o.ret] 32)=W0:=⟨_,rfl⟩
 have HX0:Hid (Ext w W0):=by unfold Hid;rw[←hW0];exact Ext.alloc _ _
 have HR0:Hid (Row1 W0 w.heap.size 32 o.cells):=by unfold Hid;rw[←hW0];exact Row1.made w _ _
 have HT0:Hid (TblAt W0 tb p ts (fun i=>F i∧i<w.heap.size)):=TblAt.ext (F:=fun i=>F i∧i<w.heap.size) ⟨ht.row,ht.tree,fun q=>ht.out q.1,fun j hj q=>ht.outs j hj q.1⟩ HX0.out
 have HP0:Hid (PagerAt W0 p (fun i=>F i∧i<w.heap.size) S0):=PagerAt.ext (F:=fun i=>F i∧i<w.heap.size) hp.shrink HX0.out
 have HWID:Hid (∀(F':Nat→Prop) (w':World),Keeps (fun i=>F i∧i<w.heap.size) F' W0 w'→Keeps F F' w w'):=fun F' w' h=>((Keeps.of HX0.out).trans h).widen (fun i q=>q.1)
 have HLT:Hid (¬(fun i=>F i∧i<w.heap.size) w.heap.size):=fun q=>absurd q.2 (Nat.lt_irrefl _)
 generalize (fun i=>F i∧i<w.heap.size)=F0 at *
 have HRES:=hin.result
 have cE:Hid (∀W,Calls Tryz.prog 118 #[.agg #[.int .i64 o.id,.int .i64 o.proc,.int .i64 o.object,.int .i64 o.kind,.int .i64 o.method,.int .i64 o.arg,.int .i64 o.second,.bool o.done,.int .i64 o.result,.int .i64 o.invoke,.int .i64 o.ret]] W fun e w'=>e= .returned (.tuple #[.string (bts (opL o)),.int .i64 0])∧Ext W w'):=fun W=>by
  have h1:=Z6r o W (by omega)
  rw[ho,if_pos rfl]at h1
  exact h1
 have cM:Hid (∀W,Ext W0 W→Calls Tryz.prog 70 #[.pointer (some ⟨tb,0,none⟩)] W fun e w'=>e= .returned (.bool true)∧W=w'):=fun W hW=>Z4m W (HT0.out.ext hW).row
 have cD:Hid (∀W,Ext W0 W→Calls Tryz.prog 59 #[.pointer (some ⟨tb,0,none⟩),.int .i64 o.id] W fun e w'=>∃ev S Ts0,(ev=0∨ev=6)∧e= .returned (.int .i64 ev)∧Q S Ts0∧∃F',TblAt w' tb p ts F'∧PagerAt w' p F' S∧Keeps F0 F' W w'):=fun W hW=>hdel W F0 (HT0.out.ext hW) (HP0.out.ext hW)
 have cW:Hid (∀i W,i<5→Calls Tryz.prog 120 #[.int .i64 (i:Nat),.agg #[.int .i64 o.id,.int .i64 o.proc,.int .i64 o.object,.int .i64 o.kind,.int .i64 o.method,.int .i64 o.arg,.int .i64 o.second,.bool o.done,.int .i64 o.result,.int .i64 o.invoke,.int .i64 o.ret]] W fun e w'=>e= .returned (.string (wayK i o))∧Ext W w'):=fun i W hi=>Z8m i o W hi (hin.way i)
 have HNO:=hD hno
 have HQ:=hD hQ
 clear hdel hno hQ ht hp hin ho
 have cPut0:Hid (∀S Ts0 R,Q S Ts0→Z0z S=R→∀k,k<5→∀(W wr:World) (S1:StoreD) (Ts1:Nat→TrD) (F1:Nat→Prop),PutZ tb p ts S Ts0 L o R F0 W0 k wr S1 Ts1 F1→Ext wr W→Calls Tryz.prog 119 #[.pointer (some ⟨ts k,0,none⟩),.string (wayK k o),.string (recW k o)] W fun e w'=>e= .returned (.int .i64 0)∧∃S' Ts' F',PutZ tb p ts S Ts0 L o R F0 W0 (k+1) w' S' Ts' F'):=fun S Ts0 R hq hRR k hk W wr S1 Ts1 F1 h hW=>by
  obtain⟨_,jH,hR⟩:=HQ.out S Ts0 hq
  rw[hRR]at hR
  have hsame:=h.same k (Nat.le_refl _)
  have hneed:=Y6u Ts0 k 5 hk
  have hdk:=jH k hk
  have hr:=h.room
  have hrs:=Z8w k (OpIn.of HOK.out)
  refine(X1z (Ts1 k) (wayK k o) (recW k o) W ((h.at_.ext hW).tree k hk) (h.at_.outs k hk) (h.pag.ext hW) (by omega) h.tab.fm (h.tab.tr k hk) (Y2d k o) hrs (by rw[hsame];omega) (by rw[hsame];exact Z9j hdk)).mono ?_
  rintro e w' ⟨rfl,S',T',hp,F',hp',hkp⟩
  refine⟨rfl,S',_,F',⟨h.step hk HOK.out (HNO.out k hk) hp hp' ((Keeps.of hW).trans hkp),fun hs n C q=> ?_⟩⟩
  have hz1:=(h.soil hs n C q).put (by omega) hp h.tab.fm (h.tab.tr k hk) (Y2d k o) hrs (X7d k o) (by rw[hsame];exact hs k hk)
  rw[hsame,Nat.add_assoc]at hz1
  exact hz1
 go_enter Tryz.func55,Tryz.ntmps55
 go_upto_region 1 with fail
 clear hW0
 obtain⟨b0,b1,b2,b3,b4,b5,b6,b7,b8,b9,b10⟩:=At11.row HR0.out
 go_upto_region 7 with (first
  | (go_at_call 118;(with_reducible refine(cE.out _).mono ?_);clear cE;rintro e w1 ⟨rfl,hb1⟩;have b0:=(At11.row (HR0.out.ext hb1 HR0.out.lt)).1;have HB1:=hD hb1;clear hb1)
  | (go_at_call 70;(with_reducible refine(cM.out _ HB1.out).mono ?_);clear cM;rintro e w2 ⟨rfl,rfl⟩)
  | (go_at_call 59;(with_reducible refine(cD.out _ HB1.out).mono ?_);clear cD;rintro e w3 ⟨ev,S,Ts0,hev,rfl,hq3,F3,ht3,hp3,hk3⟩;have HQ3:=hD hq3;clear hq3;have HT3:=hD ht3;have HP3:=hD hp3;have HK3:Hid (Keeps F0 F3 W0 w3):=(Keeps.of HB1.out).trans hk3;clear ht3 hp3 hk3))
 have HTAB:Hid (Tab S Ts0 L):=(HQ.out S Ts0 HQ3.out).1
 obtain⟨R,hR⟩:∃R,Z0z S=R:=⟨_,rfl⟩
 have HRR:Hid (Z0z S=R):=hR
 have cPut:Hid (∀k,k<5→∀(W wr:World) (S1:StoreD) (Ts1:Nat→TrD) (F1:Nat→Prop),PutZ tb p ts S Ts0 L o R F0 W0 k wr S1 Ts1 F1→Ext wr W→Calls Tryz.prog 119 #[.pointer (some ⟨ts k,0,none⟩),.string (wayK k o),.string (recW k o)] W fun e w'=>e= .returned (.int .i64 0)∧∃S' Ts' F',PutZ tb p ts S Ts0 L o R F0 W0 (k+1) w' S' Ts' F'):=cPut0.out S Ts0 R HQ3.out hR
 clear hR cPut0
 have HPK:Hid (PutZ tb p ts S Ts0 L o R F0 W0 0 w3 S Ts0 F3):=⟨⟨HT3.out,HP3.out,HK3.out,HTAB.out.congr (fun i _=>rfl) (fun i _=>rfl),fun i hi=>absurd hi (by omega),fun i _=>rfl,by rw[HRR.out];exact Nat.le_refl _⟩,fun _ n C q=>q⟩
 have t0:w3.cell? ⟨tb,0,none⟩=some (tp (ts 0)):=HT3.out.row.cell 0
 have t1:w3.cell? ⟨tb,1,none⟩=some (tp (ts 1)):=HT3.out.row.cell 1
 have t2:w3.cell? ⟨tb,2,none⟩=some (tp (ts 2)):=HT3.out.row.cell 2
 have t3:w3.cell? ⟨tb,3,none⟩=some (tp (ts 3)):=HT3.out.row.cell 3
 have t4:w3.cell? ⟨tb,4,none⟩=some (tp (ts 4)):=HT3.out.row.cell 4
 clear b0 b1 b2 b3 b4 b5 b6 b7 b8 b9 b10
 go_cut [7,32] (fun _ v wx=>v= .bool false∧wx=w3)
 case first=>
  rcases hev with rfl | rfl
  ·go_wp2_with fail
   go_meet
   exact⟨rfl,rfl⟩
  ·go_wp2_with fail
   go_meet
   exact⟨rfl,rfl⟩
 case rest=>
 obtain⟨rfl,rfl⟩:=hcut
 go_wp2_with fail
 clear t0 t1 t2 t3 t4
 go_loopw [38] (fun x wr=>∃(k:Nat) (S1:StoreD) (Ts1:Nat→TrD) (F1:Nat→Prop),k≤5∧x= .int .i64 (k:Nat)∧PutZ tb p ts S Ts0 L o R F0 W0 k wr S1 Ts1 F1) (fun x _=>5-(intOf x).toNat)
 case atStart=>exact⟨0,S,Ts0,F3,by omega,rfl,HPK.out⟩
 case round=>
  obtain⟨k,S1,Ts1,F1,hk,rfl,hpk⟩:=hrel
  have HP:=hD hpk
  clear hpk
  obtain⟨b0,b1,b2,b3,b4,b5,b6,b7,b8,b9,b10⟩:=At11.row (HP.out.keep.only.row HR0.out HLT.out)
  by_cases hk5:k=5
  ·subst hk5
   go_wp2_with fail
   go_ret
   have h1:=HP.out
   refine⟨rfl,S,Ts0,HQ3.out,S1,Ts1,F1,?_⟩
   rw[HRR.out]
   exact⟨⟨h1.at_,h1.pag,HWID.out _ _ h1.keep,h1.tab,h1.done,h1.same,h1.room⟩,h1.soil⟩
  ·have hk4:k<5:=by omega
   have q1:decide ((k:Int)<5)=true:=decide_eq_true (by omega)
   have q2:(k:Int)<5:=by omega
   have cP:Hid (∀W,Ext wr W→Calls Tryz.prog 119 #[.pointer (some ⟨ts k,0,none⟩),.string (wayK k o),.string (recW k o)] W fun e w'=>e= .returned (.int .i64 0)∧∃S' Ts' F',PutZ tb p ts S Ts0 L o R F0 W0 (k+1) w' S' Ts' F'):=fun W hW=>cPut.out k hk4 W wr S1 Ts1 F1 HP.out hW
   have cW1:Hid (∀W,Calls Tryz.prog 120 #[.int .i64 (k:Nat),.agg #[.int .i64 o.id,.int .i64 o.proc,.int .i64 o.object,.int .i64 o.kind,.int .i64 o.method,.int .i64 o.arg,.int .i64 o.second,.bool o.done,.int .i64 o.result,.int .i64 o.invoke,.int .i64 o.ret]] W fun e w'=>e= .returned (.string (wayK k o))∧Ext W w'):=fun W=>cW.out k W hk4
   generalize wayK k o=ky at cP cW1
   have hix:=V6z ts wr hk4
   generalize hTK:ts k=tk at cP hix
   clear cW cPut hTK hk5
   by_cases hk0:k=0
   ·have q3:((k:Int)==0)=true:=by simp[hk0]
    have q4:decide ((k:Int)=0)=true:=decide_eq_true (by omega)
    rw[show recW k o=bts (opL o)from if_pos hk0]at cP
    clear hk0
    go_wp2_with (first
     | (go_at_call 120;(with_reducible refine(cW1.out _).mono ?_);clear cW1;rintro e w2 ⟨rfl,hb2⟩)
     | (go_at_call 119;(with_reducible refine(cP.out _ hb2).mono ?_);clear cP;rintro e w3 ⟨rfl,S3,Ts3,F3,hp3⟩;have HP3:=hD hp3;clear hp3))
    go_roundw
    case rel=>exact⟨k+1,S3,Ts3,F3,by omega,by go_num,HP3.out⟩
    case measure=>simp[intOf];omega
   ·have q3:((k:Int)==0)=false:=by simp[hk0]
    have q4:decide ((k:Int)=0)=false:=decide_eq_false (by omega)
    have q5:¬(k:Int)=0:=by omega
    rw[show recW k o=⟨#[]⟩from if_neg hk0]at cP
    clear hk0
    go_wp2_with (first
     | (go_at_call 120;(with_reducible refine(cW1.out _).mono ?_);clear cW1;rintro e w2 ⟨rfl,hb2⟩)
     | (go_at_call 119;(with_reducible refine(cP.out _ hb2).mono ?_);clear cP;rintro e w3 ⟨rfl,S3,Ts3,F3,hp3⟩;have HP3:=hD hp3;clear hp3))
    go_roundw
    case rel=>exact⟨k+1,S3,Ts3,F3,by omega,by go_num,HP3.out⟩
    case measure=>simp[intOf];omega
structure DelY (S0:StoreD) (Ts0:Nat→TrD) (l:List OpD) (id:Int) (S:StoreD) (Ts:Nat→TrD):Prop extends DelB S0 Ts0 l id S Ts where
 soil:∀n C,Soil n C S0→Soil n C S
theorem Y2f{tb p:Nat}{ts:Nat→Nat}{F:Nat→Prop}{S0:StoreD}{Ts0:Nat→TrD}{l:List OpD}(id:Int)(w:World)(ht:TblAt w tb p ts F)(hp:PagerAt w p F S0)
 (hT:Tab S0 Ts0 (fun _=>l))(hd:∀i,i<5→depT (Ts0 i)≤31)(hid:In64 id):
  Calls Tryz.prog 59 #[.pointer (some ⟨tb,0,none⟩),.int .i64 id] w fun e w'=>e= .returned (.int .i64 (delE l id))∧∃S Ts,DelY S0 Ts0 l id S Ts∧∃F',TblAt w' tb p ts F'∧PagerAt w' p F' S∧Keeps F F' w w':=by
 cases hg:getL l id with
 | none=>
   refine(Y2e id w ht hp hT (hd 0 (by omega)) hid hg).mono ?_
   rintro e w' ⟨rfl,h⟩
   exact⟨by unfold delE;rw[hg];rfl,S0,Ts0,⟨⟨by rw[V1v hg];exact hT,fun _=>Nat.le_refl _,fun _=>Nat.le_refl _,rfl,.inl ⟨rfl,hg⟩⟩,fun n C h=>h⟩,h⟩
 | some o=>
   have h0:=hg
   unfold getL at h0
   have hm:=List.mem_of_find?_eq_some h0
   have hi:o.id=id:=by have:=List.find?_some h0;simpa using this
   subst hi
   refine(X4s (L:=fun _=>l) o w ht hp hT (fun _ _=>hm) hd).mono ?_
   rintro e w' ⟨rfl,S,Ts,F',h⟩
   refine⟨by unfold delE;rw[hg];rfl,S,Ts,⟨⟨h.tab.congr (fun _ _=>rfl) (fun i hi=> ?_),h.dep,h.less,h.room,.inr ⟨o,hg,h.done⟩⟩,h.soil⟩,F',h.at_,h.pag,h.keep⟩
   rw[if_pos hi]
structure PutY (S0:StoreD) (Ts0:Nat→TrD) (l:List OpD) (o:OpD) (S:StoreD) (Ts:Nat→TrD):Prop where
 tab:Tab S Ts (fun _=>o::delO l o.id)
 via:∃S1 Ts1,DelY S0 Ts0 l o.id S1 Ts1∧(∀i,i<5→V9h i o (Ts1 i) (Ts i))∧Z0z S1≤Z0z S+Z4n Ts1 5∧((∀i,i<5→Slim (Ts1 i))→∀n C,Soil n C S1→Soil (n+Y9l Ts1 5) C S)
theorem X0g{tb p:Nat}{ts:Nat→Nat}{F:Nat→Prop}{S0:StoreD}{Ts0:Nat→TrD}{l:List OpD}(o:OpD)(w:World)(ht:TblAt w tb p ts F)(hp:PagerAt w p F S0)(ho:Z2c o=0)
 (hT:Tab S0 Ts0 (fun _=>l))(hd:∀i,i<5→depT (Ts0 i)≤31)(hr:Z4n Ts0 5≤Z0z S0):
  Calls Tryz.prog 55 #[.pointer (some ⟨tb,0,none⟩),o.val] w fun e w'=>e= .returned (.int .i64 0)∧∃S Ts,PutY S0 Ts0 l o S Ts∧∃F',TblAt w' tb p ts F'∧PagerAt w' p F' S∧Keeps F F' w w':=by
 have hid:In64 o.id:=by have:=(OpIn.of ho).id;unfold In64;omega
 refine(Y7z (L:=fun _=>delO l o.id) (DelY S0 Ts0 l o.id) o w ht hp ho (fun W F1 h1 h2=>(Y2f o.id W h1 h2 hT hd hid).mono ?_) (fun S Ts h=>⟨h.tab,fun i hi=>Nat.le_trans (h.dep i) (hd i hi),by have:=h.more;omega⟩) (fun i _ x hx=>(Z9l.1 hx).2)).mono ?_
 ·rintro e w' ⟨rfl,S,Ts,hb,h⟩
  refine⟨_,S,Ts,?_,rfl,hb,h⟩
  unfold delE
  split
  ·exact .inl rfl
  ·exact .inr rfl
 ·rintro e w' ⟨rfl,S1,Ts1,hb,S,Ts,F',h⟩
  exact⟨rfl,S,Ts,⟨h.tab.congr (fun _ _=>rfl) (fun i hi=>by rw[if_pos hi]),S1,Ts1,hb,fun i hi=>h.done i hi,h.room,h.soil⟩,F',h.at_,h.pag,h.keep⟩
structure TabZ (c:Nat) (C:StoreD) (S:StoreD) (Ts:Nat→TrD) (l:List OpD) (t:Nat):Prop extends TabI c S Ts l t where
 soil:Soil (Y8d t) C S
theorem PutY.putB{S0 S:StoreD}{Ts0 Ts:Nat→TrD}{l:List OpD}{o:OpD}(h:PutY S0 Ts0 l o S Ts):PutB S0 Ts0 l o S Ts:=
 let ⟨S1,Ts1,h1,h2,h3,_⟩:=h.via;⟨h.tab,S1,Ts1,h1.toDelB,h2,h3⟩
section
variable {c t:Nat} {C S0 S:StoreD} {Ts0 Ts:Nat→TrD} {l:List OpD} {o:OpD} {id:Int}
theorem TabZ.more{u:Nat}(h:TabZ c C S Ts l t)(hu:t≤u):TabZ c C S Ts l u:=⟨h.toTabI.more hu,h.soil.more (Z9x hu)⟩
theorem TabZ.del(h:TabZ c C S0 Ts0 l t)(hb:DelY S0 Ts0 l id S Ts):TabZ c C S Ts (delO l id) t:=⟨h.toTabI.del hb.toDelB,hb.soil _ _ h.soil⟩
theorem TabZ.put(h:TabZ c C S0 Ts0 l t)(ho:Z2c o=0)(hb:PutY S0 Ts0 l o S Ts):TabZ c C S Ts (wiO l o) (t+1):=by
 refine⟨h.toTabI.put ho hb.putB,?_⟩
 obtain⟨S1,Ts1,h1,h2,h3,h4⟩:=hb.via
 have h5:=h.toTabI.del h1.toDelB
 refine(h4 h5.slim _ _ (h1.soil _ _ h.soil)).more ?_
 have:=Y5j h5.pot 5 (Nat.le_refl _)
 show _≤Y8d t+5*((t+17)/9)
 omega
end
section
variable {S S':StoreD}
theorem Cmtd.used(h:Cmtd S S')(hp:2<S.head.pages)(b:Nat):Z0y S' b=Z0y S b:=by unfold Z0y;rw[h.view 0 (by omega)]
theorem Cmtd.root(h:Cmtd S S')(hp:2<S.head.pages)(i:Nat):Z1s S' i=Z1s S i:=by unfold Z1s;rw[h.view 1 (by omega)]
theorem Cmtd.rm(h:Cmtd S S')(hp:2<S.head.pages):Z0z S'=Z0z S:=by
 unfold Z0z Z1u
 rw[h.pages,show Z0y S'=Z0y S from funext (fun b=>h.used hp b)]
theorem PageN.cmtd{a:Nat}{n:NodeD}(hn:PageN S a n)(h:Cmtd S S')(hp:2<S.head.pages):PageN S' a n:=
 ⟨⟨hn.given.1,by rw[h.pages];exact hn.given.2.1,by rw[h.used hp];exact hn.given.2.2⟩,hn.ok,hn.fits,by rw[h.view a hn.given.2.1];exact hn.view⟩
theorem X2y(h:Cmtd S S')(hp:2<S.head.pages):∀(d:Nat) (t:TT d),onT S d t→onT S' d t
 | 0,_,ho=>PageN.cmtd ho h hp
 | d+1,_,ho=>⟨PageN.cmtd ho.1 h hp,fun c hc=>X2y h hp d c (ho.2 c hc)⟩
theorem TrS.cmtd{i:Nat}(h:Cmtd S S')(hp:2<S.head.pages):∀ {T:TrD},TrS S i T→TrS S' i T
 | .no,ht=>by show Z1s S' i=0;rw[h.root hp];exact ht
 | .yes d t,ht=>⟨by rw[h.root hp];exact ht.1,X2y h hp d t ht.2.1,ht.2.2⟩
theorem Fm.cmtd(hf:Fm S)(h:Cmtd S S')(hp:2<S.head.pages)(hfull:FullV S'):Fm S':=⟨hfull,by rw[h.used hp];exact hf.u0,by rw[h.used hp];exact hf.u1,by rw[h.pages];exact hf.most⟩
theorem Tab.cmtd{Ts:Nat→TrD}{L:Nat→List OpD}(ht:Tab S Ts L)(h:Cmtd S S')(hp:2<S.head.pages)(hfull:FullV S'):Tab S' Ts L:=
 ⟨ht.fm.cmtd h hp hfull,fun i hi=>(ht.tr i hi).cmtd h hp,ht.disj,ht.ok,ht.ids,ht.mem⟩
theorem TabI.cmtd{c t:Nat}{Ts:Nat→TrD}{l:List OpD}(ht:TabI c S Ts l t)(h:Cmtd S S')(hp:2<S.head.pages)(hfull:FullV S'):TabI c S' Ts l t:=
 ⟨ht.tab.cmtd h hp hfull,ht.ris,ht.pot,ht.slim,by rw[h.rm hp];exact ht.room⟩
theorem TabZ.cmtd{c t:Nat}{C:StoreD}{Ts:Nat→TrD}{l:List OpD}(ht:TabZ c C S Ts l t)(h:Cmtd S S')(hp:2<S.head.pages)(hfull:FullV S'):TabZ c S' S' Ts l t:=by
 refine⟨ht.toTabI.cmtd h hp hfull,rfl,?_⟩
 obtain⟨L,h1,h2⟩:=ht.soil.list
 refine⟨L,h1,fun b hb q=>h2 b hb ?_⟩
 rcases q with q | q
 ·exact absurd (h.clean b) q
 ·rw[h.used hp]at q;exact .inr q
end
theorem V3d{S:StoreD}(h:Fm S)(hr:∀i,i<5→TrS S i .no):Tab S (fun _=> .no) (fun _=> []):=
 ⟨h,hr,fun i j _ _ _ b hb=>(by cases hb),fun i _ o ho=>(by cases ho),fun i _=>List.Pairwise.nil,fun i _ x=>⟨fun q=>(by cases q),fun⟨_,q,_⟩=>(by cases q)⟩⟩
theorem X7w{c n room:Nat}(hf:FullV (Z1j n room))(hc:c≤pgN n room-2):TabI c (Z1j n room) (fun _=> .no) [] 0:=
 ⟨V3d (X2p hf) (fun i _=>X2o n room i),List.Pairwise.nil,fun i _=>Nat.zero_le _,fun i _ x hx=>(by cases hx),by rw[Y0a];show c≤_+0;omega⟩
theorem X8f(f:Nat)(ya yb:Array Value)(W:World):Sem.run Tryz.prog (binOp .eql 44 (.func (.func f) ya yb) .nilFunc) W= .ok (.bool false) W:=by kernel_rfl
def V9k{A:Option Addr}{n c:Nat}(pv:Option Addr)(way:Int)(w:World)(e:Ending)(w':World):Prop:=
 ∃bt bw bf,e= .returned (.func (.func 129) #[] #[.pointer (some ⟨bf,0,none⟩),.pointer (some ⟨bt,0,none⟩),.pointer (some ⟨bw,0,none⟩)])∧Ext w w'∧w.heap.size≤bt∧w.heap.size≤bw∧w.heap.size≤bf∧
  Row1 w' bt 26 [.pointer pv]∧Row1 w' bw 3 [.int .i64 way]∧Row1 w' bf 23 [.slice A n c]
theorem V5y{A:Option Addr}{n c:Nat}(pv:Option Addr)(way:Int)(w:World):
  Calls Tryz.prog 65 #[.pointer pv,.int .i64 way,.slice A n c] w (V9k (A:=A) (n:=n) (c:=c) pv way w):=by
 have HR:Hid (∀W',W'=((w.alloc (.cells #[.pointer pv] 26)).alloc (.cells #[.int .i64 way] 3)).alloc (.cells #[.slice A n c] 23)→V9k (A:=A) (n:=n) (c:=c) pv way w (.returned (.func (.func 129) #[] #[.pointer (some ⟨w.heap.size+2,0,none⟩),.pointer (some ⟨w.heap.size,0,none⟩),.pointer (some ⟨w.heap.size+1,0,none⟩)])) W'):=by
  rintro W' rfl
  exact⟨w.heap.size,w.heap.size+1,w.heap.size+2,rfl,(Ext.alloc _ _).trans ((Ext.alloc _ _).trans (Ext.alloc _ _)),by omega,by omega,by omega,((Row1.made w _ [.pointer pv]).alloc _).alloc _,(Row1.made' (by simp) _ [.int .i64 way]).alloc _,Row1.made' (by simp) _ [.slice A n c]⟩
 go_enter Tryz.func65,Tryz.ntmps65
 go_wp2_with fail
 go_ret
 exact HR.out _ rfl
structure FJ (bl bm:Nat) (most:Int) (pre:List OpD) (G:Nat→Prop) (W:World):Prop where
 list:∃A c,OwnL W 0 32 11 OpD.cells (.slice A pre.length c) pre∧Row1 W bl 30 [.slice A pre.length c]∧∀k,(Value.slice A pre.length c).ownBlock=some k→G k
 most:Row1 W bm 3 [.int .i64 most]
 gl:G bl
 gm:G bm
theorem Y5k{bl bm:Nat}{most:Int}{pre:List OpD}{G:Nat→Prop}(x:OpD)(W:World)(h:FJ bl bm most pre G W)(hp:pre.length≤100000):
  Calls Tryz.prog 66 #[x.val,.pointer (some ⟨bl,0,none⟩),.pointer (some ⟨bm,0,none⟩)] W fun e W'=>e= .returned (.bool (decide ((pre.length:Int)+1<most)))∧∃G2,FJ bl bm most (pre++ [x]) G2 W'∧Keeps G G2 W W':=by
 obtain⟨A,c,ho,hr,hk⟩:=h.list
 have hm:=h.most
 have hgl:=h.gl
 have hgm:=h.gm
 have hne:bl≠bm:=hr.apart hm (by decide)
 have hvl:(Value.slice A pre.length c).ownBlock≠some bl:=ho.apartRow hr (by decide)
 have hvm:(Value.slice A pre.length c).ownBlock≠some bm:=ho.apartRow hm (by decide)
 have c0:W.cell? ⟨bl,0,none⟩=some (.slice A pre.length c):=hr.cell 0
 have HO:=hD ho
 have HR:=hD hr
 have HM:=hD hm
 have HK:=hD hk
 have HGL:=hD hgl
 have HGM:=hD hgm
 have hbl:=hr.lt
 have hbm:=hm.lt
 obtain⟨n,hn⟩:∃n,pre.length=n:=⟨_,rfl⟩
 have HN:=hD hn
 have HLN:Hid ((pre++ [x]).length=n+1):=by unfold Hid;rw[List.length_append,List.length_singleton,hn]
 rw[hn]at hp ho hr hk hvl hvm c0 HO HR HK ⊢
 clear h hn ho hr hm hk hgl hgm
 go_enter Tryz.func66,Tryz.ntmps66
 go_upto_region 1 with fail
 have HX2:Hid (Ext W ((W.alloc (.cells #[.int .i64 x.id,.int .i64 x.proc,.int .i64 x.object,.int .i64 x.kind,.int .i64 x.method,.int .i64 x.arg,.int .i64 x.second,.bool x.done,.int .i64 x.result,.int .i64 x.invoke,.int .i64 x.ret] 32)).alloc (.cells #[.int .i64 x.id,.int .i64 x.proc,.int .i64 x.object,.int .i64 x.kind,.int .i64 x.method,.int .i64 x.arg,.int .i64 x.second,.bool x.done,.int .i64 x.result,.int .i64 x.invoke,.int .i64 x.ret] 32))):=(Ext.alloc _ _).trans (Ext.alloc _ _)
 have HOX:Hid (OwnL ((W.alloc (.cells #[.int .i64 x.id,.int .i64 x.proc,.int .i64 x.object,.int .i64 x.kind,.int .i64 x.method,.int .i64 x.arg,.int .i64 x.second,.bool x.done,.int .i64 x.result,.int .i64 x.invoke,.int .i64 x.ret] 32)).alloc (.cells #[.int .i64 x.id,.int .i64 x.proc,.int .i64 x.object,.int .i64 x.kind,.int .i64 x.method,.int .i64 x.arg,.int .i64 x.second,.bool x.done,.int .i64 x.result,.int .i64 x.invoke,.int .i64 x.ret] 32)) 0 32 11 OpD.cells (.slice A n c) pre):=HO.out.ext HX2.out
 have HRX:Hid (Row1 ((W.alloc (.cells #[.int .i64 x.id,.int .i64 x.proc,.int .i64 x.object,.int .i64 x.kind,.int .i64 x.method,.int .i64 x.arg,.int .i64 x.second,.bool x.done,.int .i64 x.result,.int .i64 x.invoke,.int .i64 x.ret] 32)).alloc (.cells #[.int .i64 x.id,.int .i64 x.proc,.int .i64 x.object,.int .i64 x.kind,.int .i64 x.method,.int .i64 x.arg,.int .i64 x.second,.bool x.done,.int .i64 x.result,.int .i64 x.invoke,.int .i64 x.ret] 32)) bl 30 [.slice A n c]):=HR.out.ext HX2.out hbl
 have HMX:Hid (Row1 ((W.alloc (.cells #[.int .i64 x.id,.int .i64 x.proc,.int .i64 x.object,.int .i64 x.kind,.int .i64 x.method,.int .i64 x.arg,.int .i64 x.second,.bool x.done,.int .i64 x.result,.int .i64 x.invoke,.int .i64 x.ret] 32)).alloc (.cells #[.int .i64 x.id,.int .i64 x.proc,.int .i64 x.object,.int .i64 x.kind,.int .i64 x.method,.int .i64 x.arg,.int .i64 x.second,.bool x.done,.int .i64 x.result,.int .i64 x.invoke,.int .i64 x.ret] 32)) bm 3 [.int .i64 most]):=HM.out.ext HX2.out hbm
 have HP1:Hid (pre.length+1≤1000000000):=by unfold Hid;rw[HN.out];omega
 have HVL:=hD hvl
 have HVM:=hD hvm
 go_wp2_with (at_builtin;go_loud (refine Z0t elOp Z9a Y8u rfl (.tmp 5) (.tmp 7) rfl (.slice A n c) pre rfl HOX.out (Nat.zero_le _) (W.heap.size+1) 1 x rfl (Row1.made' (by simp) _ x.cells) HP1.out (by decide) ?_;intro A4 c4 w4 hown4 hgr4 hwh4;rw[HLN.out]at hown4 hwh4 ⊢;have HR4:=HRX.out.grown hgr4 (fun e=>HVL.out e.symm);have HM4:=hD (HMX.out.grown hgr4 (fun e=>HVM.out e.symm));have v40:w4.cell? ⟨bl,0,none⟩=some (.slice A n c):=HR4.cell 0;have vf0:w4.frozen? ⟨bl,0,none⟩=false:=HR4.soft 0;have v41:w4.cell? ⟨bm,0,none⟩=some (.int .i64 most):=HM4.out.cell 0;have HR4:=hD HR4;have HO4:=hD hown4;have HG4:=hD hgr4;have HW4:=hD hwh4;clear hown4 hgr4 hwh4))
 go_ret
 refine⟨?_,fun i=>G i∨W.heap.size≤i,?_,?_⟩
 ·try simp only[Int.natCast_add,Int.natCast_one]
  rfl
 ·have hw2:((W.alloc (.cells #[.int .i64 x.id,.int .i64 x.proc,.int .i64 x.object,.int .i64 x.kind,.int .i64 x.method,.int .i64 x.arg,.int .i64 x.second,.bool x.done,.int .i64 x.result,.int .i64 x.invoke,.int .i64 x.ret] 32)).alloc (.cells #[.int .i64 x.id,.int .i64 x.proc,.int .i64 x.object,.int .i64 x.kind,.int .i64 x.method,.int .i64 x.arg,.int .i64 x.second,.bool x.done,.int .i64 x.result,.int .i64 x.invoke,.int .i64 x.ret] 32)).heap.size=W.heap.size+2:=by simp
  have hG:∀k,(Value.slice A4 (n+1) c4).ownBlock=some k→(G k∨W.heap.size≤k)∧k≠bl:=fun k hk=>by
   rcases HW4.out k hk with q | q
   ·exact⟨.inl (HK.out k q),fun e=>HVL.out (e▸q)⟩
   ·rw[hw2]at q;exact⟨.inr (by omega),by omega⟩
  have ho:Only (fun i=>i=bl) w4 (w4.setCell ⟨bl,0,none⟩ (.slice A4 (n+1) c4)):=Only.setCell (F:=fun i=>i=bl) (p:=⟨bl,0,none⟩) Only.refl (.inl rfl) _
  refine⟨⟨A4,c4,?_,?_,?_⟩,ho.row HM4.out (Ne.symm hne),.inl HGL.out,.inl HGM.out⟩
  ·rw[HLN.out];exact HO4.out.only ho (fun k hk=>(hG k hk).2)
  ·rw[HLN.out];exact HR4.out.set 0 _
  ·rw[HLN.out];exact fun k hk=>(hG k hk).1
 ·exact⟨(((Only.of HX2.out).trans (Only.grown HG4.out) (fun i q=> .inl (HK.out i q))).setCell (p:=⟨bl,0,none⟩) (.inl HGL.out) _),fun i q=>q⟩
def kvW(way:Nat)(o:OpD):KV:=(wayK way o,recW way o)
theorem X9q{way:Nat}{l:List OpD}:∀(L:List KV),(∀x∈L,∃o∈l,x=kvW way o)→∃os:List OpD,L=os.map (kvW way)∧∀o∈os,o∈l
 | [],_=>⟨[],rfl,fun _ h=>by cases h⟩
 | x::r,h=>by
   obtain⟨o,ho,rfl⟩:=h x List.mem_cons_self
   obtain⟨os,h1,h2⟩:=X9q r (fun y hy=>h y (List.mem_cons_of_mem _ hy))
   exact⟨o::os,by rw[h1];rfl,fun a ha=>by
    rcases List.mem_cons.1 ha with rfl | ha
    ·exact ho
    ·exact h2 a ha⟩
structure Finds (Ts:Nat→TrD) (way:Nat) (front:ByteArray) (l all:List OpD) (k:Nat):Prop where
 outs:Z1h (Ts way).list front=all.map (kvW way)
 mem:∀o∈all,o∈l
 under:∀i (h:i<all.length),i<k→Z2m (wayK way all[i]) front=true
 stop:∀h:k<all.length,Z2m (wayK way all[k]) front=false
 le:k≤all.length
theorem Y2k{α:Type}(p:α→Bool):∀l:List α,∃k,k≤l.length∧(∀i (h:i<l.length),i<k→p l[i]=true)∧∀h:k<l.length,p l[k]=false
 | []=>⟨0,Nat.le_refl _,fun i h=>absurd h (by simp),fun h=>absurd h (by simp)⟩
 | a::r=>by
   cases hp:p a with
   | false=>exact⟨0,by simp,fun i h q=>absurd q (by omega),fun _=>by simpa using hp⟩
   | true=>
     obtain⟨k,h1,h2,h3⟩:=Y2k p r
     refine⟨k+1,by simp;omega,fun i h q=> ?_,fun h=> ?_⟩
     ·cases i with
      | zero=>simpa using hp
      | succ i=>simpa using h2 i (by simpa using h) (by omega)
     ·simpa using h3 (by simpa using h)
theorem Tab.finds{S:StoreD}{Ts:Nat→TrD}{l:List OpD}{way:Nat}(h:Tab S Ts (fun _=>l))(hw:way<5)(front:ByteArray):∃all k,Finds Ts way front l all k:=by
 obtain⟨all,h1,h2⟩:=X9q (way:=way) (l:=l) (Z1h (Ts way).list front) (fun x hx=>by
  obtain⟨o,ho,e⟩:=(h.mem way hw x).1 ((List.mem_filter.1 hx).1)
  exact⟨o,ho,e⟩)
 obtain⟨k,h3,h4,h5⟩:=Y2k (fun o=>Z2m (wayK way o) front) all
 exact⟨all,k,h1,h2,h4,h5,h3⟩
attribute [local go_sem] Oper.semAt_some
theorem V7h(p q:Tmp)(u v:Value)(t:Array Value):(#[p,q].zip #[u,v]).foldl (fun t (p,v)=>t.setIfInBounds p v) t=(t.setIfInBounds p u).setIfInBounds q v:=by simp
theorem X3i:∀ {l:List OpD} (_:l.Pairwise (fun a b=>a.id≠b.id)) {o:OpD} (_:o∈l),getL l o.id=some o
 | [],_,_,h=>by cases h
 | a::r,hp,o,h=>by
   unfold getL
   rw[List.find?_cons]
   rcases List.mem_cons.1 h with rfl | h
   ·simp
   ·have:=(List.pairwise_cons.1 hp).1 o h
    rw[show (a.id==o.id)=false by simpa using this]
    exact X3i (List.pairwise_cons.1 hp).2 h
theorem V8o{motive:Act→Prop}{a:Act}(h:∀a0,a0=a→motive a0):motive a:=h a rfl
theorem X4w{w:World}{base:Nat}{v:Value}{way:Nat}{o:OpD}(h:OwnL w base 3 1 encN v (wayL way o)):∃sb cap q,v= .slice (some ⟨sb,0,none⟩) (q+1) cap∧q<3∧base≤sb∧sb<w.heap.size∧w.cell? ⟨sb,q,none⟩=some (.int .i64 o.id):=by
 have hw:=Y1l way o
 obtain⟨g,cap,spare,rfl,hbg,hr,h4⟩:=h.row (by omega)
 have hlt:=h.lt g rfl
 obtain⟨q,hq⟩:∃q,(wayL way o).length=q+1:=⟨(wayL way o).length-1,by omega⟩
 refine⟨g,cap,q,by rw[hq],by omega,hlt.1,hlt.2,?_⟩
 have hl:(wayL way o)[q]? =some o.id:=by
  have:=Y2c way o
  rw[List.getLast?_eq_getElem?,hq]at this
  exact this
 rw[hr.cell q,List.getElem?_append_left (by rw[Z0s Z0l,hq];omega)]
 have:=Z3a encN 1 Z0l (wayL way o) q o.id hl 0 (.int .i64 o.id) rfl
 rwa [Nat.mul_one,Nat.add_zero]at this
structure FRows (tb p:Nat) (ts:Nat→Nat) (bt bw bs by_ bl bm way:Nat) (begin:ByteArray) (T:Nat→Prop) (W:World):Prop where
 row:V2n W tb ts
 tree:∀j,j<5→Z0b W (ts j) p j
 rt:Row1 W bt 26 [tp tb]
 rw_:Row1 W bw 3 [.int .i64 (way:Nat)]
 rs:Row1 W bs 9 [.string begin]
 ry:Row1 W by_ 46 [.func (.func 66) #[] #[.pointer (some ⟨bl,0,none⟩),.pointer (some ⟨bm,0,none⟩)]]
 t1:T tb
 t2:∀j,j<5→T (ts j)
 t3:T bt∧T bw∧T bs∧T by_
theorem FRows.only{tb p:Nat}{ts:Nat→Nat}{bt bw bs by_ bl bm way:Nat}{begin:ByteArray}{T G:Nat→Prop}{W W':World}(h:FRows tb p ts bt bw bs by_ bl bm way begin T W)(ho:Only G W W')(hG:∀i,T i→¬G i):FRows tb p ts bt bw bs by_ bl bm way begin T W':=
 ⟨ho.row h.row (hG _ h.t1),fun j hj=>ho.row (h.tree j hj) (hG _ (h.t2 j hj)),ho.row h.rt (hG _ h.t3.1),ho.row h.rw_ (hG _ h.t3.2.1),ho.row h.rs (hG _ h.t3.2.2.1),ho.row h.ry (hG _ h.t3.2.2.2),h.t1,h.t2,h.t3⟩
theorem FRows.tbl{tb p:Nat}{ts:Nat→Nat}{bt bw bs by_ bl bm way:Nat}{begin:ByteArray}{T F:Nat→Prop}{W:World}(h:FRows tb p ts bt bw bs by_ bl bm way begin T W)(hF:∀i,T i→¬F i):TblAt W tb p ts F:=
 ⟨h.row,h.tree,hF _ h.t1,fun j hj=>hF _ (h.t2 j hj)⟩
theorem FJ.only{bl bm:Nat}{most:Int}{pre:List OpD}{G H:Nat→Prop}{W W':World}(h:FJ bl bm most pre G W)(ho:Only H W W')(hH:∀i,G i→¬H i):FJ bl bm most pre G W':=by
 obtain⟨A,c,h1,h2,h3⟩:=h.list
 exact⟨⟨A,c,h1.only ho (fun k hk=>hH k (h3 k hk)),ho.row h2 (hH _ h.gl),h3⟩,ho.row h.most (hH _ h.gm),h.gl,h.gm⟩
def FI(tb p:Nat)(ts:Nat→Nat)(bt bw bs by_ bl bm way:Nat)(begin:ByteArray)(T:Nat→Prop)(most:Int)(all:List OpD)(k:Nat)(pre:List KV)(G:Nat→Prop)(W:World):Prop:=
 ∃Gc:Nat→Prop,G=(fun i=>Gc i∨T i)∧(∀i,T i→¬Gc i)∧pre=(all.take pre.length).map (kvW way)∧pre.length≤k∧(pre.length≤all.length∧(pre.length:Int)<most)∧
  FRows tb p ts bt bw bs by_ bl bm way begin T W∧FJ bl bm most (all.take pre.length) Gc W
theorem FI.abides{tb p:Nat}{ts:Nat→Nat}{bt bw bs by_ bl bm way:Nat}{begin:ByteArray}{T:Nat→Prop}{most:Int}{all:List OpD}{k:Nat}:Z5q (FI tb p ts bt bw bs by_ bl bm way begin T most all k):=by
 rintro s G W W' ⟨Gc,rfl,h1,h2,h3,h4,h5,h6⟩ hlt ho
 exact⟨Gc,rfl,h1,h2,h3,h4,h5.only ho (fun i q r=>r (.inr q)),h6.only ho (fun i q r=>r (.inl q))⟩
def FX(tb p:Nat)(ts:Nat→Nat)(bt bw bs by_ bl bm way:Nat)(begin:ByteArray)(T:Nat→Prop)(most:Int)(all:List OpD)(k:Nat)(G:Nat→Prop)(W:World):Prop:=
 ∃(Gc:Nat→Prop) (j:Nat),G=(fun i=>Gc i∨T i)∧(∀i,T i→¬Gc i)∧j≤k∧j≤all.length∧((j=k∨most≤(j:Int))∧(j:Int)≤most)∧
  FRows tb p ts bt bw bs by_ bl bm way begin T W∧FJ bl bm most (all.take j) Gc W
theorem FX.abides{tb p:Nat}{ts:Nat→Nat}{bt bw bs by_ bl bm way:Nat}{begin:ByteArray}{T:Nat→Prop}{most:Int}{all:List OpD}{k:Nat}(s:List KV)(G:Nat→Prop)(W W':World)(h:FX tb p ts bt bw bs by_ bl bm way begin T most all k G W)(ho:Only (fun i=>¬G i) W W'):FX tb p ts bt bw bs by_ bl bm way begin T most all k G W':=by
 obtain⟨Gc,j,rfl,h1,h2,h3,h4,h5,h6⟩:=h
 exact⟨Gc,j,rfl,h1,h2,h3,h4,h5.only ho (fun i q r=>r (.inr q)),h6.only ho (fun i q r=>r (.inl q))⟩
theorem FRows.keeps{tb p:Nat}{ts:Nat→Nat}{bt bw bs by_ bl bm way:Nat}{begin:ByteArray}{T F0 F1 Gc Gc1:Nat→Prop}{W0 W:World}(h1:FRows tb p ts bt bw bs by_ bl bm way begin T W0)(h2:FRows tb p ts bt bw bs by_ bl bm way begin T W)
 (hT:∀i,T i→i=tb∨(∃j,j<5∧i=ts j)∨i=bt∨i=bw∨i=bs∨i=by_)(hF:∀i,T i→¬F1 i∧¬Gc1 i)(hk:Keeps (Un F0 (fun i=>Gc i∨T i)) (Un F1 (fun i=>Gc1 i∨T i)) W0 W):Keeps (Un F0 Gc) (Un F1 Gc1) W0 W:=by
 have hb:∀i,T i→W.heap[i]? =W0.heap[i]? :=fun i q=>by
  rcases hT i q with rfl | ⟨j,hj,rfl⟩ | rfl | rfl | rfl | rfl
  ·exact h2.row.trans h1.row.symm
  ·exact(h2.tree j hj).trans (h1.tree j hj).symm
  ·exact h2.rt.trans h1.rt.symm
  ·exact h2.rw_.trans h1.rw_.symm
  ·exact h2.rs.trans h1.rs.symm
  ·exact h2.ry.trans h1.ry.symm
 refine⟨⟨hk.only.os,hk.only.tape,hk.only.output,hk.only.size,fun i hi hn=> ?_⟩,fun i q=> ?_⟩
 ·by_cases ht:T i
  ·exact hb i ht
  ·exact hk.only.block i hi (fun r=>by
    rcases r with r | r | r
    ·exact hn (.inl r)
    ·exact hn (.inr r)
    ·exact ht r)
 ·have hnT:¬T i:=fun r=>by
   rcases q with q | q
   ·exact(hF i r).1 q
   ·exact(hF i r).2 q
  rcases hk.new i (q.elim .inl (fun q=> .inr (.inl q)))with (r | r | r) | r
  ·exact .inl (.inl r)
  ·exact .inl (.inr r)
  ·exact absurd r hnT
  ·exact .inr r
end
end Go.Proofs.YtmiolpfanlpfnaaGreat
