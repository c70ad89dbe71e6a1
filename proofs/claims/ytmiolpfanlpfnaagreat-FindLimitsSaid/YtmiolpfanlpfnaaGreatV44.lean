/- annalistlaw20.filled: a table of operations, and these by rising numbers. Conditions: operations that can be read. -/
import Derived.Test.YtmiolpfanlpfnaaGreatV43
import Derived.Test.YtmiolpfanlpfnaaGreatV35
set_option maxRecDepth 100000
set_option maxHeartbeats 4000000
set_option linter.unusedSimpArgs false
set_option linter.unusedVariables false
namespace Go.Proofs.YtmiolpfanlpfnaaGreat
open Go.RowKit
theorem Z6t(V:Value)(ops:List OpD)(w:World)(hs:Sl w 11 ROp V ops)(hin:∀o∈ops,In64 o.result):
  Calls Tryz.prog 35 #[V] w fun e w'=>∃tb p ts v F,e= .returned (.tuple #[.pointer (some ⟨tb,0,none⟩),v])∧FilR w tb p ts 796 (filL (ops.take 24)) 24 v F w':=by
 obtain⟨A,c,rfl⟩:=hs.form
 obtain⟨_,hc1,hc2,hA⟩:=hs.at
 have HA:=hD hA
 have HIN:=hD hin
 have cN:Calls Tryz.prog 49 #[.int .i64 1000] w _:=X2a 1000 w (by omega) (by omega)
 have cF:Hid (∀W (g:Nat) (F1:Nat→Prop),DiskAt W g F1 (newD 1000)→Calls Tryz.prog 50 #[.pointer (some ⟨g,0,none⟩),.int .i64 200] W fun e w'=>e= .returned (.int .i64 0)∧∃F',DiskAt w' g F' (fmtD 1000 200 (pgN 1000 200))∧Keeps F1 F' W w'):=fun W g F1 hW=>X6p 1000 200 (pgN 1000 200) W hW (by omega) (by omega) (by omega) rfl
 have cO:Hid (∀W (g:Nat) (F2:Nat→Prop),DiskAt W g F2 (fmtD 1000 200 (pgN 1000 200))→Calls Tryz.prog 51 #[.pointer (some ⟨g,0,none⟩)] W fun e w'=>∃s F',e= .returned (.tuple #[.pointer (some ⟨s,0,none⟩),.int .i64 0])∧StoreAt w' s F' (Y5m 1000 200)∧Keeps F2 F' W w'∧W.heap.size≤s):=fun W g F2 hW=>X5b (Z4j 1000 200) W hW rfl (by rw[V1q];omega) (X6n (by omega) (by omega) (by omega)) (Y9s (by omega) (by omega) (by omega)) rfl
 have cP:Hid (∀W (s:Nat) (F2:Nat→Prop),StoreAt W s F2 (Y5m 1000 200)→Calls Tryz.prog 52 #[.pointer (some ⟨s,0,none⟩)] W fun e w'=>∃p F',e= .returned (.tuple #[.pointer (some ⟨p,0,none⟩),.int .i64 0])∧PagerAt w' p F' (Y5m 1000 200)∧Keeps F2 F' W w'∧W.heap.size≤p):=fun W s F2 hW=>Y9d W hW (X5k 1000 200) (by decide)
 have cG:Hid (∀W (p:Nat) (F2:Nat→Prop),PagerAt W p F2 (Y5m 1000 200)→Calls Tryz.prog 53 #[.pointer (some ⟨p,0,none⟩)] W fun e w'=>e= .returned (.int .i64 0)∧∃F',PagerAt w' p F' (Z4v 1000 200)∧Keeps F2 F' W w'):=fun W p F2 hW=>X1b W hW
 clear hs hA hin
 go_enter Tryz.func35,Tryz.ntmps35
 go_wp2_with (first | (go_at_call 49;(with_reducible refine cN.mono ?_);clear cN;rintro e w1 ⟨g,F1,rfl,hd1,hx1,hn1⟩;have HX1:=hD hx1;have HN1:=hD hn1;have HD1:=hD hd1;clear hx1 hn1 hd1) | (go_at_call 50;(with_reducible refine(cF.out _ _ _ HD1.out).mono ?_);clear cF;rintro e w2 ⟨rfl,F2,hd2,hk2⟩;have HK2:=hD hk2;have HD2:=hD hd2;clear hk2 hd2) | (go_at_call 51;(with_reducible refine(cO.out _ _ _ HD2.out).mono ?_);clear cO;rintro e w3 ⟨s,F3,rfl,hs3,hk3,hz3⟩;have HK3:=hD hk3;have HS3:=hD hs3;clear hk3 hs3 hz3) | (go_at_call 52;(with_reducible refine(cP.out _ _ _ HS3.out).mono ?_);clear cP;rintro e w4 ⟨p,F4,rfl,hp4,hk4,hz4⟩;have HK4:=hD hk4;have HP4:=hD hp4;clear hk4 hp4 hz4) | (go_at_call 53;(with_reducible refine(cG.out _ _ _ HP4.out).mono ?_);clear cG;rintro e w5 ⟨rfl,F5,hp5,hk5⟩;have HK5:=hD hk5;have HP5:=hD hp5;clear hk5 hp5;have cT:=Y8j w5 HP5.out) | (go_at_call 54;(with_reducible refine cT.mono ?_);clear cT;rintro e w6 ⟨tb,ts,F6,rfl,ht6,hp6,hk6,hz6,hy6⟩;have HY6:=hD hy6;have HK6:=hD hk6;have HP6:=hD hp6;have HT6:=hD ht6;have HZ6:=hD hz6;clear hk6 hp6 ht6 hz6 hy6))
 have H0:Hid (FilR w tb p ts 796 (filL (ops.take 0)) 0 (.slice none 0 0) (fun i=>F6 i∧i<w6.heap.size) w6):=by
  have h1:=((((HK2.out.trans HK3.out).trans HK4.out).trans HK5.out).trans HK6.out).fresh HX1.out HN1.out
  have h3:=Nat.le_trans (Nat.le_trans (Nat.le_trans HX1.out.size HK2.out.only.size) HK3.out.only.size) (Nat.le_trans HK4.out.only.size HK5.out.only.size)
  have h2:=Nat.le_trans h3 HZ6.out
  exact⟨⟨_,_,X8g HP6.out.full (by decide),HP6.out.shrink⟩,⟨HT6.out.row,HT6.out.tree,fun q=>HT6.out.out q.1,fun j hj q=>HT6.out.outs j hj q.1⟩,OwnL.nil _ _ _ _ _,h1.1,fun i q=>⟨h1.2 i q.1,q.2⟩,fun b q=>(by cases q),h2,fun j hj=>Nat.le_trans h3 (HY6.out j hj)⟩
 clear HK2 HK3 HK4 HK5 HK6 HP6 HT6 HZ6 HX1 HN1 HY6
 go_loopw [10,9] (fun i v wr=>∃(k:Nat) (F:Nat→Prop),k≤ops.length∧k≤24∧i= .int .i64 k∧FilR w tb p ts 796 (filL (ops.take k)) k v F wr)
  (fun i _ _=>ops.length-(intOf i).toNat)
 case atStart=>exact⟨0,_,by omega,by omega,rfl,H0.out⟩
 case round=>
  obtain⟨k,F,hk,hk24,rfl,hr⟩:=hrel
  have HR:=hD hr
  obtain⟨vA,vc,rfl⟩:=hr.own.form
  clear hr
  by_cases hlt:k<ops.length
  ·have hd:decide ((k:Int)<(ops.length:Int))=true:=by simp;omega
   by_cases h24:k<24
   ·have hd2:decide ((k:Int)<24)=true:=by simp;omega
    have HT:=hD (Y9x ops k hlt)
    have HLEN:=hD (Y1r ops k hk)
    have HRES:=hD (HIN.out _ (List.getElem_mem hlt))
    obtain⟨b,off,rfl,hbl,hx⟩:=HA.out (by omega)
    obtain⟨cs,rfl,_,hcs⟩:=hx k hlt
    have HE:Hid (∀W:World,Ext w W→(W.cell? ⟨b,off+k*11,none⟩=some (.int .i64 ops[k].id)∧W.cell? ⟨b,off+k*11+1,none⟩=some (.int .i64 ops[k].proc)∧W.cell? ⟨b,off+k*11+2,none⟩=some (.int .i64 ops[k].object)∧W.cell? ⟨b,off+k*11+3,none⟩=some (.int .i64 ops[k].kind)∧W.cell? ⟨b,off+k*11+4,none⟩=some (.int .i64 ops[k].method)∧W.cell? ⟨b,off+k*11+5,none⟩=some (.int .i64 ops[k].arg)∧W.cell? ⟨b,off+k*11+6,none⟩=some (.int .i64 ops[k].second)∧W.cell? ⟨b,off+k*11+7,none⟩=some (.bool ops[k].done)∧W.cell? ⟨b,off+k*11+8,none⟩=some (.int .i64 ops[k].result)∧W.cell? ⟨b,off+k*11+9,none⟩=some (.int .i64 ops[k].invoke)∧W.cell? ⟨b,off+k*11+10,none⟩=some (.int .i64 ops[k].ret))):=by
     intro W h
     have hw:=fun j u hu=>(h.cell (p:=⟨b,off+k*11+j,none⟩) hbl).trans (hcs j u hu)
     exact⟨hw 0 _ rfl,hw 1 _ rfl,hw 2 _ rfl,hw 3 _ rfl,hw 4 _ rfl,hw 5 _ rfl,hw 6 _ rfl,hw 7 _ rfl,hw 8 _ rfl,hw 9 _ rfl,hw 10 _ rfl⟩
    clear hx hcs
    generalize ops[k]=x at *
    generalize filL (ops.take k)=out at *
    obtain⟨e0,e1,e2,e3,e4,e5,e6,e7,e8,e9,e10⟩:=HE.out wr HR.out.ext
    obtain⟨S,Ts,hI,hP⟩:=HR.out.ex
    have HI:=hD hI
    have HP:=hD hP
    clear hI hP
    have hsp:Y2f (k+1)≤796:=Nat.le_trans (Z9r (show k+1≤24 by omega)) (by decide)
    cases ho:decide (Z3q x=0)with
    | true=>
      have ho':=of_decide_eq_true ho
      have HO:=hD ho'
      have HFS:Hid (Z8a out x=wiO out x):=by unfold Hid Z8a;rw[if_pos ho']
      have cPut:=X4x x wr HR.out.at_ HP.out ho' HI.out.tab (fun i hi=>HI.out.dep (by omega) i hi) (HI.out.enough hsp)
      clear ho ho'
      go_wp2_with (first
       | (go_at_call 55;(with_reducible refine cPut.mono ?_);clear cPut;rintro e w1 ⟨rfl,S1,Ts1,hb1,F1,ht1,hp1,hk1⟩;have HB1:=hD hb1;have HT1:=hD ht1;have HP1:=hD hp1;have HK1:=hD hk1;clear hb1 ht1 hp1 hk1 e0 e1 e2 e3 e4 e5 e6 e7 e8 e9 e10;have HX1:Hid (Ext w w1):=(HK1.out.fresh HR.out.ext (fun i q=>(HR.out.new i q).1)).1;obtain⟨e0,e1,e2,e3,e4,e5,e6,e7,e8,e9,e10⟩:=HE.out w1 HX1.out;have HOW:Hid (OwnL w1 w.heap.size 32 11 OpD.cells (.slice vA out.length vc) out):=HR.out.own.only HK1.out.only (fun b q=>HR.out.apart b q))
       | (go_at_call 57;refine(X0v _ out x _ (HOW.out.sl (R:=ROp) Z2t (fun _=>rfl)) (by have:=HLEN.out;omega)).mono ?_;rintro e w2 ⟨⟨v2,rfl,ho2⟩,hb2⟩;have HO2:=hD ho2;have HB2:=hD hb2;clear ho2 hb2))
      go_roundw
      case rel=>
       refine⟨k+1,fun i=>F1 i∧i<w1.heap.size,by omega,by omega,by go_num,?_⟩
       rw[HT.out,HFS.out]
       have z1:=HX1.out.size
       refine⟨⟨S1,Ts1,HI.out.put HO.out HB1.out,HP1.out.shrink.ext HB2.out⟩,TblAt.ext ⟨HT1.out.row,HT1.out.tree,fun q=>HT1.out.out q.1,fun j hj q=>HT1.out.outs j hj q.1⟩ HB2.out,HO2.out.lower z1,HX1.out.trans HB2.out,fun i q=>⟨(HK1.out.fresh HR.out.ext (fun i q=>(HR.out.new i q).1)).2 i q.1,Nat.lt_of_lt_of_le q.2 HB2.out.size⟩,fun b q r=> ?_,HR.out.ntb,HR.out.nts⟩
       have:=(HO2.out.lt b q).1
       omega
      case measure=>simp[intOf];omega
    | false=>
      have ho':=of_decide_eq_false ho
      have HFS:Hid (Z8a out x=out):=by unfold Hid Z8a;rw[if_neg ho']
      have cPut:=X4w x wr HR.out.at_ ho' HRES.out
      have hq:(Z3q x==0)=false:=by simpa using ho'
      clear ho ho'
      generalize Z3q x=oc at *
      go_wp2_with (go_at_call 55;(with_reducible refine cPut.mono ?_);clear cPut;rintro e w1 ⟨rfl,hx1⟩;have HX1:=hD hx1;clear hx1)
      go_roundw
      case rel=>
       refine⟨k+1,F,by omega,by omega,by go_num,?_⟩
       rw[HT.out,HFS.out]
       exact(HR.out.to HX1.out).more (by omega)
      case measure=>simp[intOf];omega
   ·obtain rfl:k=24:=by omega
    have hd2:decide (((24:Nat):Int)<24)=false:=by simp
    go_wp2_with fail
    go_ret2
    exact⟨tb,p,ts,_,F,rfl,HR.out⟩
  ·have hd:decide ((k:Int)<(ops.length:Int))=false:=by simp;omega
   have HFIN:Hid (FilR w tb p ts 796 (filL (ops.take 24)) 24 (.slice vA (filL (ops.take k)).length vc) F wr):=by
    have e1:ops.take 24=ops.take k:=by rw[List.take_of_length_le (by omega),List.take_of_length_le (by omega)]
    unfold Hid
    rw[e1]
    exact HR.out.more hk24
   go_wp2_with fail
   go_ret2
   exact⟨tb,p,ts,_,F,rfl,HFIN.out⟩
end Go.Proofs.YtmiolpfanlpfnaaGreat
