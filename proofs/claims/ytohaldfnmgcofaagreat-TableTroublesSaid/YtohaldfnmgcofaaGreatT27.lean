/- table.Put. Conditions: a table's trees, room. -/
import Derived.Test.YtohaldfnmgcofaaGreatT24
import Derived.Test.YtohaldfnmgcofaaGreatT26
set_option maxRecDepth 100000
set_option maxHeartbeats 4000000
set_option linter.unusedSimpArgs false
set_option linter.unusedVariables false
namespace Go.Proofs.YtohaldfnmgcofaaGreat
open Go.RowKit
theorem V0n(ts:Nat->Nat)(w:World):Sem.run Tryz.prog (Instr.index 172 (.agg #[tp (ts 0),tp (ts 1),tp (ts 2),tp (ts 3),tp (ts 4)]) (.int .i64 0)) w= .ok (tp (ts 0)) w:=by kernel_rfl
theorem V0m(ts:Nat->Nat)(w:World):Sem.run Tryz.prog (Instr.index 172 (.agg #[tp (ts 0),tp (ts 1),tp (ts 2),tp (ts 3),tp (ts 4)]) (.int .i64 1)) w= .ok (tp (ts 1)) w:=by kernel_rfl
theorem V0l(ts:Nat->Nat)(w:World):Sem.run Tryz.prog (Instr.index 172 (.agg #[tp (ts 0),tp (ts 1),tp (ts 2),tp (ts 3),tp (ts 4)]) (.int .i64 2)) w= .ok (tp (ts 2)) w:=by kernel_rfl
theorem V0k(ts:Nat->Nat)(w:World):Sem.run Tryz.prog (Instr.index 172 (.agg #[tp (ts 0),tp (ts 1),tp (ts 2),tp (ts 3),tp (ts 4)]) (.int .i64 3)) w= .ok (tp (ts 3)) w:=by kernel_rfl
theorem V0j(ts:Nat->Nat)(w:World):Sem.run Tryz.prog (Instr.index 172 (.agg #[tp (ts 0),tp (ts 1),tp (ts 2),tp (ts 3),tp (ts 4)]) (.int .i64 4)) w= .ok (tp (ts 4)) w:=by kernel_rfl
theorem X9u{tb p:Nat}{ts:Nat->Nat}{F:Nat->Prop}{S0 S:StoreD}{Ts0:Nat->TrD}{L:Nat->List OpD}(o:OpD)(w:World)(ht:TblAt w tb p ts F)(hp:PagerAt w p F S0)(ho:Z1p o=0)
 (hdel:∀(W:World) (F1:Nat->Prop),TblAt W tb p ts F1->PagerAt W p F1 S0->cQ 71 #[tp tb,.int .i64 o.id] W fun e w'=>∃ev,(ev=0\/ev=6)/\e= .returned (.int .i64 ev)/\∃F',TblAt w' tb p ts F'/\PagerAt w' p F' S/\Keeps F1 F' W w')
 (hT:Tab S Ts0 L)(hno:∀i,i<5->∀x∈L i,x.id≠o.id)(hd:∀i,i<5->depT (Ts0 i)<=31)(hroom:Z4y Ts0 5<=Z0z S):
  cQ 69 #[tp tb,o.val] w fun e w'=>e= .returned (.int .i64 0)/\∃S' Ts' F',PutK tb p ts Ts0 L o (Z0z S) F w 5 w' S' Ts' F':=by
 have hin:=OpIn.of ho;have HOK:=hD ho;obtain⟨W0,hW0⟩:∃W0,w.alloc (.cells #[.int .i64 o.id,.int .i64 o.proc,.int .i64 o.object,.int .i64 o.kind,.int .i64 o.method,.int .i64 o.arg,.int .i64 o.second,.bool o.done,.int .i64 o.result,.int .i64 o.invoke,.int .i64 o.ret] 73)=W0:=⟨_,rfl⟩;have HX0:Hid (Ext w W0):=by unfold Hid;rw[<-hW0];exact Ext.alloc _ _
 have HR0:Hid (Row1 W0 w.heap.size 73 o.cells):=by unfold Hid;rw[<-hW0];exact Row1.made w _ _
 have HT0:Hid (TblAt W0 tb p ts (fun i=>F i/\i<w.heap.size)):=TblAt.ext (F:=fun i=>F i/\i<w.heap.size) ⟨ht.row,ht.tree,fun q=>ht.out q.1,fun j hj q=>ht.outs j hj q.1⟩ HX0.out;have HP0:Hid (PagerAt W0 p (fun i=>F i/\i<w.heap.size) S0):=PagerAt.ext (F:=fun i=>F i/\i<w.heap.size) hp.shrink HX0.out;have HWID:Hid (∀(F':Nat->Prop) (w':World),Keeps (fun i=>F i/\i<w.heap.size) F' W0 w'->Keeps F F' w w'):=fun F' w' h=>((Keeps.of HX0.out).trans h).widen (fun i q=>q.1);have HLT:Hid (¬(fun i=>F i/\i<w.heap.size) w.heap.size):=fun q=>absurd q.2 (Nat.lt_irrefl _);generalize (fun i=>F i/\i<w.heap.size)=F0 at *;have HRES:=hin.result;have cE:Hid (∀W,cQ 131 #[.agg #[.int .i64 o.id,.int .i64 o.proc,.int .i64 o.object,.int .i64 o.kind,.int .i64 o.method,.int .i64 o.arg,.int .i64 o.second,.bool o.done,.int .i64 o.result,.int .i64 o.invoke,.int .i64 o.ret]] W fun e w'=>e= .returned (.tuple #[.string (bts (opL o)),.int .i64 0])/\Ext W w'):=fun W=>by have h1:=Z7j o W (by omega);rw[ho,if_pos rfl]at h1;exact h1
 have cM:Hid (∀W,Ext W0 W->cQ 85 #[tp tb] W fun e w'=>e= .returned (.bool true)/\W=w'):=fun W hW=>Z2v W (HT0.out.ext hW).row;have cD:Hid (∀W,Ext W0 W->cQ 71 #[tp tb,.int .i64 o.id] W fun e w'=>∃ev,(ev=0\/ev=6)/\e= .returned (.int .i64 ev)/\∃F',TblAt w' tb p ts F'/\PagerAt w' p F' S/\Keeps F0 F' W w'):=fun W hW=>hdel W F0 (HT0.out.ext hW) (HP0.out.ext hW);have cW:Hid (∀i W,i<5->cQ 89 #[.int .i64 (i:Nat),.agg #[.int .i64 o.id,.int .i64 o.proc,.int .i64 o.object,.int .i64 o.kind,.int .i64 o.method,.int .i64 o.arg,.int .i64 o.second,.bool o.done,.int .i64 o.result,.int .i64 o.invoke,.int .i64 o.ret]] W fun e w'=>e= .returned (.string (wayK i o))/\Ext W w'):=fun i W hi=>Z5q i o W hi (hin.way i);have HNO:=hD hno;have HD:=hD hd;have HTAB:=hD hT;have HROOM:=hD hroom;generalize hR:Z0z S=R at *;have HRR:Hid (Z0z S=R):=hR;clear hdel hno hd hT hroom hR ht hp hin ho;have cPut:Hid (∀k,k<5->∀(W wr:World) (S1:StoreD) (Ts1:Nat->TrD) (F1:Nat->Prop),PutK tb p ts Ts0 L o R F0 W0 k wr S1 Ts1 F1->Ext wr W->cQ 34 #[.pointer (some ⟨ts k,0,none⟩),.string (wayK k o),.string (recW k o)] W fun e w'=>e= .returned (.int .i64 0)/\∃S' Ts' F',PutK tb p ts Ts0 L o R F0 W0 (k+1) w' S' Ts' F'):=fun k hk W wr S1 Ts1 F1 h hW=>by have hsame:=h.same k (aF _);have hneed:=Y2v Ts0 k 5 hk;have hdk:=HD.out k hk;have hr:=h.room;have hR:=HROOM.out;refine(Y7o (Ts1 k) (wayK k o) (recW k o) W ((h.at_.ext hW).tree k hk) (h.at_.outs k hk) (h.pag.ext hW) (by omega) h.tab.fm (h.tab.tr k hk) (Z6y k o) (Z9w k (OpIn.of HOK.out)) (by rw[hsame];omega) (by rw[hsame];exact Z4a hdk)).mono ?_;rintro e w' ⟨rfl,S',T',hp,F',hp',hkp⟩;exact⟨rfl,S',_,F',h.step hk HOK.out (HNO.out k hk) hp hp' ((Keeps.of hW).trans hkp)⟩
 go_enter Tryz.func69,Tryz.ntmps69;go_upto_region 1 with fail;clear hW0;obtain⟨b0,b1,b2,b3,b4,b5,b6,b7,b8,b9,b10⟩:=At11.row HR0.out;go_upto_region 7 with (first
  | (go_at_call 131;(with_reducible refine(cE.out _).mono ?_);clear cE;rintro e w1 ⟨rfl,hb1⟩;have b0:=(At11.row (HR0.out.ext hb1 HR0.out.lt)).1;have HB1:=hD hb1;clear hb1)
  | (go_at_call 85;(with_reducible refine(cM.out _ HB1.out).mono ?_);clear cM;rintro e w2 ⟨rfl,rfl⟩)
  | (go_at_call 71;(with_reducible refine(cD.out _ HB1.out).mono ?_);clear cD;rintro e w3 ⟨ev,hev,rfl,F3,ht3,hp3,hk3⟩;have HT3:=hD ht3;have HP3:=hD hp3;have HK3:Hid (Keeps F0 F3 W0 w3):=(Keeps.of HB1.out).trans hk3;clear ht3 hp3 hk3))
 have HPK:Hid (PutK tb p ts Ts0 L o R F0 W0 0 w3 S Ts0 F3):=⟨HT3.out,HP3.out,HK3.out,HTAB.out.congr (fun i _=>rfl) (fun i _=>rfl),fun i hi=>absurd hi (by omega),fun i _=>rfl,by rw[HRR.out];exact aF _⟩;have t0:w3.cell? ⟨tb,0,none⟩=some (tp (ts 0)):=HT3.out.row.cell 0;have t1:w3.cell? ⟨tb,1,none⟩=some (tp (ts 1)):=HT3.out.row.cell 1;have t2:w3.cell? ⟨tb,2,none⟩=some (tp (ts 2)):=HT3.out.row.cell 2;have t3:w3.cell? ⟨tb,3,none⟩=some (tp (ts 3)):=HT3.out.row.cell 3;have t4:w3.cell? ⟨tb,4,none⟩=some (tp (ts 4)):=HT3.out.row.cell 4;clear b0 b1 b2 b3 b4 b5 b6 b7 b8 b9 b10
 go_cut [7,32] (fun _ v wx=>v= .bool false/\wx=w3)
 case first=>
  rcases hev with rfl | rfl
  ·go_wp2_with fail
   go_meet
   exact⟨rfl,rfl⟩
  ·go_wp2_with fail
   go_meet
   exact⟨rfl,rfl⟩
 case rest=>
 obtain⟨rfl,rfl⟩:=hcut;go_wp2_with fail;clear t0 t1 t2 t3 t4
 go_loopw [38] (fun x wr=>∃(k:Nat) (S1:StoreD) (Ts1:Nat->TrD) (F1:Nat->Prop),k<=5/\x= .int .i64 (k:Nat)/\PutK tb p ts Ts0 L o R F0 W0 k wr S1 Ts1 F1) (fun x _=>5-(intOf x).toNat)
 case atStart=>exact⟨0,S,Ts0,F3,by omega,rfl,HPK.out⟩
 case round=>
  obtain⟨k,S1,Ts1,F1,hk,rfl,hpk⟩:=hrel;have HP:=hD hpk;clear hpk;obtain⟨b0,b1,b2,b3,b4,b5,b6,b7,b8,b9,b10⟩:=At11.row (HP.out.keep.only.row HR0.out HLT.out);by_cases hk5:k=5
  ·subst hk5;go_wp2_with fail;go_ret;have h1:=HP.out;exact⟨rfl,S1,Ts1,F1,h1.at_,h1.pag,HWID.out _ _ h1.keep,h1.tab,h1.done,h1.same,h1.room⟩
  ·rcases(show k=0\/k=1\/k=2\/k=3\/k=4 from by omega)with rfl | rfl | rfl | rfl | rfl
   ·have cP:Hid (∀W,Ext wr W->cQ 34 #[.pointer (some ⟨ts 0,0,none⟩),.string (wayK 0 o),.string (bts (opL o))] W fun e w'=>e= .returned (.int .i64 0)/\∃S' Ts' F',PutK tb p ts Ts0 L o R F0 W0 1 w' S' Ts' F'):=fun W hW=>cPut.out 0 (by omega) W wr S1 Ts1 F1 HP.out hW;have cW1:Hid (∀W,cQ 89 #[.int .i64 0,.agg #[.int .i64 o.id,.int .i64 o.proc,.int .i64 o.object,.int .i64 o.kind,.int .i64 o.method,.int .i64 o.arg,.int .i64 o.second,.bool o.done,.int .i64 o.result,.int .i64 o.invoke,.int .i64 o.ret]] W fun e w'=>e= .returned (.string (wayK 0 o))/\Ext W w'):=fun W=>cW.out 0 W (by omega);generalize wayK 0 o=ky at cP cW1;have hix:=V0n ts wr;clear cW cPut;go_wp2_with (first
     | (go_at_call 89;(with_reducible refine(cW1.out _).mono ?_);clear cW1;rintro e w2 ⟨rfl,hb2⟩)
     | (go_at_call 34;(with_reducible refine(cP.out _ hb2).mono ?_);clear cP;rintro e w3 ⟨rfl,S3,Ts3,F3,hp3⟩;have HP3:=hD hp3;clear hp3))
    go_roundw
    case rel=>exact⟨1,S3,Ts3,F3,by omega,by go_num,HP3.out⟩
    case measure=>simp[intOf]
   ·have cP:Hid (∀W,Ext wr W->cQ 34 #[.pointer (some ⟨ts 1,0,none⟩),.string (wayK 1 o),.string ⟨#[]⟩] W fun e w'=>e= .returned (.int .i64 0)/\∃S' Ts' F',PutK tb p ts Ts0 L o R F0 W0 2 w' S' Ts' F'):=fun W hW=>cPut.out 1 (by omega) W wr S1 Ts1 F1 HP.out hW;have cW1:Hid (∀W,cQ 89 #[.int .i64 1,.agg #[.int .i64 o.id,.int .i64 o.proc,.int .i64 o.object,.int .i64 o.kind,.int .i64 o.method,.int .i64 o.arg,.int .i64 o.second,.bool o.done,.int .i64 o.result,.int .i64 o.invoke,.int .i64 o.ret]] W fun e w'=>e= .returned (.string (wayK 1 o))/\Ext W w'):=fun W=>cW.out 1 W (by omega);generalize wayK 1 o=ky at cP cW1;have hix:=V0m ts wr;clear cW cPut;go_wp2_with (first
     | (go_at_call 89;(with_reducible refine(cW1.out _).mono ?_);clear cW1;rintro e w2 ⟨rfl,hb2⟩)
     | (go_at_call 34;(with_reducible refine(cP.out _ hb2).mono ?_);clear cP;rintro e w3 ⟨rfl,S3,Ts3,F3,hp3⟩;have HP3:=hD hp3;clear hp3))
    go_roundw
    case rel=>exact⟨2,S3,Ts3,F3,by omega,by go_num,HP3.out⟩
    case measure=>simp[intOf]
   ·have cP:Hid (∀W,Ext wr W->cQ 34 #[.pointer (some ⟨ts 2,0,none⟩),.string (wayK 2 o),.string ⟨#[]⟩] W fun e w'=>e= .returned (.int .i64 0)/\∃S' Ts' F',PutK tb p ts Ts0 L o R F0 W0 3 w' S' Ts' F'):=fun W hW=>cPut.out 2 (by omega) W wr S1 Ts1 F1 HP.out hW;have cW1:Hid (∀W,cQ 89 #[.int .i64 2,.agg #[.int .i64 o.id,.int .i64 o.proc,.int .i64 o.object,.int .i64 o.kind,.int .i64 o.method,.int .i64 o.arg,.int .i64 o.second,.bool o.done,.int .i64 o.result,.int .i64 o.invoke,.int .i64 o.ret]] W fun e w'=>e= .returned (.string (wayK 2 o))/\Ext W w'):=fun W=>cW.out 2 W (by omega);generalize wayK 2 o=ky at cP cW1;have hix:=V0l ts wr;clear cW cPut;go_wp2_with (first
     | (go_at_call 89;(with_reducible refine(cW1.out _).mono ?_);clear cW1;rintro e w2 ⟨rfl,hb2⟩)
     | (go_at_call 34;(with_reducible refine(cP.out _ hb2).mono ?_);clear cP;rintro e w3 ⟨rfl,S3,Ts3,F3,hp3⟩;have HP3:=hD hp3;clear hp3))
    go_roundw
    case rel=>exact⟨3,S3,Ts3,F3,by omega,by go_num,HP3.out⟩
    case measure=>simp[intOf]
   ·have cP:Hid (∀W,Ext wr W->cQ 34 #[.pointer (some ⟨ts 3,0,none⟩),.string (wayK 3 o),.string ⟨#[]⟩] W fun e w'=>e= .returned (.int .i64 0)/\∃S' Ts' F',PutK tb p ts Ts0 L o R F0 W0 4 w' S' Ts' F'):=fun W hW=>cPut.out 3 (by omega) W wr S1 Ts1 F1 HP.out hW;have cW1:Hid (∀W,cQ 89 #[.int .i64 3,.agg #[.int .i64 o.id,.int .i64 o.proc,.int .i64 o.object,.int .i64 o.kind,.int .i64 o.method,.int .i64 o.arg,.int .i64 o.second,.bool o.done,.int .i64 o.result,.int .i64 o.invoke,.int .i64 o.ret]] W fun e w'=>e= .returned (.string (wayK 3 o))/\Ext W w'):=fun W=>cW.out 3 W (by omega);generalize wayK 3 o=ky at cP cW1;have hix:=V0k ts wr;clear cW cPut;go_wp2_with (first
     | (go_at_call 89;(with_reducible refine(cW1.out _).mono ?_);clear cW1;rintro e w2 ⟨rfl,hb2⟩)
     | (go_at_call 34;(with_reducible refine(cP.out _ hb2).mono ?_);clear cP;rintro e w3 ⟨rfl,S3,Ts3,F3,hp3⟩;have HP3:=hD hp3;clear hp3))
    go_roundw
    case rel=>exact⟨4,S3,Ts3,F3,by omega,by go_num,HP3.out⟩
    case measure=>simp[intOf]
   ·have cP:Hid (∀W,Ext wr W->cQ 34 #[.pointer (some ⟨ts 4,0,none⟩),.string (wayK 4 o),.string ⟨#[]⟩] W fun e w'=>e= .returned (.int .i64 0)/\∃S' Ts' F',PutK tb p ts Ts0 L o R F0 W0 5 w' S' Ts' F'):=fun W hW=>cPut.out 4 (by omega) W wr S1 Ts1 F1 HP.out hW;have cW1:Hid (∀W,cQ 89 #[.int .i64 4,.agg #[.int .i64 o.id,.int .i64 o.proc,.int .i64 o.object,.int .i64 o.kind,.int .i64 o.method,.int .i64 o.arg,.int .i64 o.second,.bool o.done,.int .i64 o.result,.int .i64 o.invoke,.int .i64 o.ret]] W fun e w'=>e= .returned (.string (wayK 4 o))/\Ext W w'):=fun W=>cW.out 4 W (by omega);generalize wayK 4 o=ky at cP cW1;have hix:=V0j ts wr;clear cW cPut;go_wp2_with (first
     | (go_at_call 89;(with_reducible refine(cW1.out _).mono ?_);clear cW1;rintro e w2 ⟨rfl,hb2⟩)
     | (go_at_call 34;(with_reducible refine(cP.out _ hb2).mono ?_);clear cP;rintro e w3 ⟨rfl,S3,Ts3,F3,hp3⟩;have HP3:=hD hp3;clear hp3))
    go_roundw
    case rel=>exact⟨5,S3,Ts3,F3,by omega,by go_num,HP3.out⟩
    case measure=>simp[intOf]
end Go.Proofs.YtohaldfnmgcofaaGreat
