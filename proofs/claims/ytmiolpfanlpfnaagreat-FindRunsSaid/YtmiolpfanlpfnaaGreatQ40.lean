/- table.Find's closure, ranged over: the walk. Conditions: a table's trees. Printed by seq2.py. -/
import Derived.Test.YtmiolpfanlpfnaaGreatQ39
set_option maxRecDepth 100000
set_option maxHeartbeats 4000000
namespace Go.Proofs.YtmiolpfanlpfnaaGreat
set_option linter.unusedSimpArgs false
set_option linter.unusedVariables false
open Go.RowKit
attribute [local go_sem] Oper.semAt_some
theorem Y5h(l':Nat){n:Nat}{P:Program}{l:Nat}{f:FuncId}{tmps:Array Value}{assign body:Code}{w:World}{R:Ending→World→Prop}(h:RoundIn Fence.wide n P l f tmps assign body w R):RoundIn (Fence.wide.inRound l') n P l f tmps assign body w R:=⟨h.1,fun c cs _=>h.2 c cs (room_wide _)⟩
theorem V2l{A:Option Addr}{n c bt bw bf tb p:Nat}{ts:Nat→Nat}{F G:Nat→Prop}{S:StoreD}{Ts:Nat→TrD}{ls all:List OpD}{k:Nat}{J Jx:List OpD→(Nat→Prop)→World→Prop}(l way:Nat)(fl:List Int)(w:World)
 (hit0:ItF tb p ts bt S F w)(hdis0:Dis F G w)(hJ:Z2x J)(hJx:Z2x Jx)
 (hY:∀pre x W1 F1 G1,J pre G1 W1→ItF tb p ts bt S F1 W1→Dis F1 G1 W1→pre++ [x] <+: all.take k→YieldAt Fence.wide 0 Tryz.prog l (X7j x) W1 fun e W'=>
    ∃F2 G2,ItF tb p ts bt S F2 W'∧Dis F2 G2 W'∧Keeps (Un F1 G1) (Un F2 G2) W1 W'∧((e= .returned (.bool true)∧J (pre++ [x]) G2 W')∨(e= .returned (.bool false)∧Jx (pre++ [x]) G2 W')))
 (h0:J [] G w)(hT:Tab S Ts (fun _=>ls))(hd:∀i,i<5→depT (Ts i)≤31)(hw:way<5)
 (h2:Row1 w bw 3 [.int .i64 (way:Nat)])(h3:Row1 w bf 23 [.slice A n c])
 (hs:Sl w 1 (fun x cs=>cs=encN x) (.slice A n c) fl)(hl:∀x∈fl,In64 x)(h4:fl.length≤4)(hf:Finds Ts way (bts (keyL fl)) ls all k)(hal:all.length≤100000):
  Calls Tryz.prog 129 #[.func (.yield l) #[] #[],.pointer (some ⟨bf,0,none⟩),.pointer (some ⟨bt,0,none⟩),.pointer (some ⟨bw,0,none⟩)] w fun e w'=>
   (∃v,e= .returned v)∧QPost tb p ts bt S F G J Jx all k w w':=by
 obtain⟨Fp,rfl,ht,hp,h1,hnb⟩:=hit0
 have hFlow:∀i,Fp i→i<w.heap.size:=fun i q=>hdis0.1 i (.inl q)
 have hof:OfR fl= .tuple #[.string (bts (keyL fl)),.int .i64 0]:=by unfold OfR;rw[if_neg (by omega)]
 have hn4:n≤4:=by have:=hs.at.1;omega
 have cO:Hid (∀W,Ext w W→Calls Tryz.prog 68 #[.slice A n c] W fun e w'=>e= .returned (.tuple #[.string (bts (keyL fl)),.int .i64 0])∧Ext W w'):=fun W hW=>by rw[←hof];exact V8a fl W (hs.ext hW) hl (by omega)
 have cM:Hid (∀W,Ext w W→Calls Tryz.prog 70 #[tp tb] W fun e w'=>e= .returned (.bool true)∧W=w'):=fun W hW=>Z5q W (ht.ext hW).row
 have HC:Hid (∀W,Ext w W→W.cell? ⟨bt,0,none⟩=some (tp tb)∧W.cell? ⟨bw,0,none⟩=some (.int .i64 (way:Nat))∧W.cell? ⟨bf,0,none⟩=some (.slice A n c)):=fun W hW=>⟨(h1.ext hW h1.lt).cell 0,(h2.ext hW h2.lt).cell 0,(h3.ext hW h3.lt).cell 0⟩
 obtain⟨bg,hbg⟩:∃bg,bts (keyL fl)=bg:=⟨_,rfl⟩
 rw[hbg]at cO hf
 clear hof hbg hs hl h4
 refine callsIn_wide (n:=3).1 ?_
 refine callsIn_of_wp_marks Tryz.func129 rfl trivial ?_ rfl
 simp only[Tryz.ntmps129,List.size_toArray,List.length_cons,List.length_nil,Nat.reduceAdd,Nat.reduceSub,Array.replicate_succ,Array.replicate_zero,List.push_toArray,List.append_toArray,List.nil_append,List.cons_append]
 obtain⟨W0,hW0⟩:∃W0,w.alloc (.cells #[.func (.yield l) #[] #[]] 46)=W0:=⟨_,rfl⟩
 have HX0:Hid (Ext w W0):=by unfold Hid;rw[←hW0];exact Ext.alloc _ _
 have HY0:Hid (Row1 W0 w.heap.size 46 [.func (.yield l) #[] #[]]):=by unfold Hid;rw[←hW0];exact Row1.made w _ _
 obtain⟨d1,d2,d3⟩:=HC.out _ HX0.out
 have q1:decide ((way:Int)<0)=false:=decide_eq_false (by omega)
 have q2:decide ((5:Int)≤(way:Int))=false:=decide_eq_false (by omega)
 gi_wp2_with (first
  | (refine ⟨trivial,?_⟩;gi_at_call 68;refine(callsIn_wide.2 (cO.out _ HX0.out)).mono ?_;clear cO;rintro e w1 ⟨rfl,hb1⟩;have HB1:Hid (Ext w w1):=HX0.out.trans hb1;have HX1:=hD hb1;clear hb1;obtain⟨e1,e2,e3⟩:=HC.out _ (HB1.out.trans (Ext.alloc _ (.cells #[.string bg] 9))))
  | (refine ⟨trivial,?_⟩;gi_at_call 70;refine(callsIn_wide.2 (cM.out _ (HB1.out.trans (Ext.alloc _ _)))).mono ?_;clear cM;rintro e w2 ⟨rfl,rfl⟩))
 have hx2:Ext w (w1.alloc (.cells #[.string bg] 9)):=HB1.out.trans (Ext.alloc _ _)
 have HBS:Hid (Row1 (w1.alloc (.cells #[.string bg] 9)) w1.heap.size 9 [.string bg]):=Row1.made w1 _ _
 have HYY:Hid (Row1 (w1.alloc (.cells #[.string bg] 9)) w.heap.size 46 [.func (.yield l) #[] #[]]):=Row1.alloc (HY0.out.ext HX1.out HY0.out.lt) _
 have hzb:w.heap.size<w1.heap.size:=Nat.lt_of_lt_of_le HY0.out.lt HX1.out.size
 have HTC:Hid (w.cell? ⟨tb,way,none⟩=some (tp (ts way))):=by unfold Hid;rw[ht.row.cell way,Y6q _ _ _ hw,if_pos hw]
 have htbl:=ht.row.lt
 generalize hW2:w1.alloc _=W2 at *
 generalize w1.heap.size=bs at *
 have HX2:=hD hx2
 have HCC:Hid (∀W,Ext W2 W→W.cell? ⟨bt,0,none⟩=some (tp tb)∧W.cell? ⟨bw,0,none⟩=some (.int .i64 (way:Nat))∧W.cell? ⟨bs,0,none⟩=some (.string bg)∧W.cell? ⟨tb,way,none⟩=some (tp (ts way))):=fun W hW=>
  ⟨(HC.out _ (HX2.out.trans hW)).1,(HC.out _ (HX2.out.trans hW)).2.1,(HBS.out.ext hW HBS.out.lt).cell 0,((HX2.out.trans hW).cell (p:=⟨tb,way,none⟩) htbl).trans HTC.out⟩
 have cF:Hid (∀W,Calls Tryz.prog 71 #[.pointer (some ⟨ts way,0,none⟩),.string bg] W (V3t (ts way) bg W)):=fun W=>X4f (ts way) bg W
 have hw0:(0:Int)≤(way:Int):=by omega
 have hw5:(way:Int)<5:=by omega
 clear hW2 hx2 e1 e2 e3 hW0 d1 d2 d3
 refine Y4w (wpIn_wide.2 ?_)
 refine wp_region_held_drew (S:=fun W=>W.cell? ⟨bt,0,none⟩=some (tp tb)∧W.cell? ⟨bw,0,none⟩=some (.int .i64 (way:Nat))∧W.cell? ⟨bs,0,none⟩=some (.string bg)∧W.cell? ⟨tb,way,none⟩=some (tp (ts way))) (by kernel_rfl) (HCC.out _ (by exact Xt)) (fun hHeld=> ?_)
 refine' tk 0 ?_
 refine' tk 1 ?_
 refine' tk 2 ?_
 refine' tk 3 ?_
 refine' tk 4 ?_
 refine' tk 5 ?_
 refine' tk 6 ?_
 refine stp 7 (fun K hK=> ?_);go_simp
 (with_reducible refine(cF.out _).mono ?_)
 rintro e w3 ⟨fb,kb,rfl,h31,h32,h33,h34,h35⟩
 have HX3:Hid (Ext W2 w3):=Ext.trans (by exact Xt) h31
 (try dsimp only)
 (try go_simp)
 refine hK.out _ _ (HCC.out _ HX3.out) (fun hHeld=> ?_)
 clear hK K
 refine pt ?_
 refine wpAnyH_done (by kernel_rfl) ?_ _
 dsimp only[V5p]
 gi_wp2
 have hw3:Ext w w3:=HX2.out.trans HX3.out
 have hz3:=HX3.out.size
 have hzw:=HX2.out.size
 have hbs:=HBS.out.lt
 have hyy:=HYY.out.lt
 have hbt:=h1.lt
 have hbw:=h2.lt
 have hfb:W2.heap.size≤fb:=h32
 have hkb:W2.heap.size≤kb:=h33
 have hfl:=h34.lt
 have hkl:=h35.lt
 have hsz:W2.heap.size≤w3.heap.size:=hz3
 have htl:∀j,j<5→ts j<w.heap.size:=fun j hj=>(ht.tree j hj).lt
 have hT1:∀i,T1 tb ts bt i→i<w.heap.size∧¬Fp i∧¬G i:=fun i q=>⟨hdis0.1 i (.inr q),by
  rcases q with rfl | ⟨j,hj5,rfl⟩ | rfl
  ·exact ht.out
  ·exact ht.outs j hj5
  ·exact hnb,fun r=>(hdis0.2 i r).2 (.inr q)⟩
 have hT2:∀i,(i=bs∨i=w.heap.size∨i=fb∨i=kb)→w.heap.size≤i∧i<w3.heap.size:=fun i q=>by rcases q with rfl | rfl | rfl | rfl<;>omega
 have hn12:∀i,(i=bs∨i=w.heap.size∨i=fb∨i=kb)→¬T1 tb ts bt i:=fun i q r=>by have:=hT2 i q;have:=(hT1 i r).1;omega
 have hTF:∀i,TQ tb ts bt bs w.heap.size fb kb i→i<w3.heap.size∧¬Fp i∧¬G i:=fun i q=>by
  rcases q with q | q
  ·have:=hT1 i q;exact⟨by omega,this.2⟩
  ·have:=hT2 i q;exact⟨this.2,fun r=>by have:=hFlow i r;omega,fun r=>by have:=(hdis0.2 i r).1;omega⟩
 have HFR:Hid (QRows tb p ts bt bs w.heap.size l bg w3):=⟨ht.row.ext hw3 ht.row.lt,fun j hj5=>(ht.tree j hj5).ext hw3 (ht.tree j hj5).lt,h1.ext hw3 h1.lt,HBS.out.ext HX3.out hbs,HYY.out.ext HX3.out hyy⟩
 have HIT:Hid (ItT p (ts way) way S (fun b=>b=fb∨b=kb) Fp w3):=⟨hp.ext hw3,(ht.tree way hw).ext hw3 (ht.tree way hw).lt,ht.outs way hw,fun b q=>⟨fun r=>by have:=hFlow b r;rcases q with rfl | rfl<;>omega,by rcases q with rfl | rfl<;>omega⟩⟩
 have HDI:Hid (Dis Fp (fun i=>G i∨TQ tb ts bt bs w.heap.size fb kb i) w3):=⟨fun i q=>by have:=hFlow i q;omega,fun i q=>by
  rcases q with q | q
  ·exact⟨by have:=(hdis0.2 i q).1;omega,fun r=>(hdis0.2 i q).2 (.inl r)⟩
  ·exact⟨(hTF i q).1,(hTF i q).2.1⟩⟩
 have HFI:Hid (QI tb p ts bt bs w.heap.size fb kb l way bg J all k [] (fun i=>G i∨TQ tb ts bt bs w.heap.size fb kb i) w3):=⟨G,rfl,fun i q=>(hTF i q).2.2,rfl,Nat.zero_le _,Nat.zero_le _,HFR.out,by rw[List.length_nil,List.take_zero];exact hJ _ _ _ _ h0 (fun i q=>(hdis0.2 i q).1) (Only.of hw3)⟩
 have HE:Hid (∀(D:Nat) (W:World) (F1 Gc1:Nat→Prop) (j:Nat),w3.heap.size≤D→(∀i,TQ tb ts bt bs w.heap.size fb kb i→¬Gc1 i)→j≤k→j≤all.length→QRows tb p ts bt bs w.heap.size l bg W→((j=k∧J (all.take j) Gc1 W)∨Jx (all.take j) Gc1 W)→ItT p (ts way) way S (fun b=>b=fb∨b=kb) F1 W→Dis F1 (fun i=>Gc1 i∨TQ tb ts bt bs w.heap.size fb kb i) W→¬F1 D→¬(Gc1 D∨TQ tb ts bt bs w.heap.size fb kb D)→Keeps (Un Fp (fun i=>G i∨TQ tb ts bt bs w.heap.size fb kb i)) (Un F1 (fun i=>Gc1 i∨TQ tb ts bt bs w.heap.size fb kb i)) w3 W→
   QPost tb p ts bt S (fun i=>Fp i∨T1 tb ts bt i) G J Jx all k w (W.putObj D (.deferred none))):=fun D W F1 Gc1 j jH hg1 hjk hja hfr hfj hit hdd hn1' hn2' hk=>by
  have ho:=Only.putObj W D (.deferred none)
  have hz:(W.putObj D (.deferred none)).heap.size=W.heap.size:=by simp
  have hfr2:=hfr.only (fb:=fb) (kb:=kb) ho (fun i q r=>hn2' (.inr (r▸q)))
  have hJo:Only (fun i=>¬Gc1 i) W (W.putObj D (.deferred none)):=ho.mono (fun i q=> .inl (fun r=>hn2' (.inl (q▸r))))
  have hnew:∀i,Un F1 (fun i=>Gc1 i∨TQ tb ts bt bs w.heap.size fb kb i) i→Un (fun i=>Fp i∨T1 tb ts bt i) G i∨w.heap.size≤i:=fun i q=>by
   rcases hk.new i q with (s | s | s | s) | s
   ·exact .inl (.inl (.inl s))
   ·exact .inl (.inr s)
   ·exact .inl (.inl (.inr s))
   ·exact .inr (hT2 i s).1
   ·exact .inr (by have:=hw3.size;omega)
  constructor
  refine⟨fun i=>F1 i∨T1 tb ts bt i,Gc1,⟨F1,rfl,hfr2.tbl (fb:=fb) (kb:=kb) (fun i q=>(hdd.2 i (.inr q)).2),hit.1.only ho (fun i q r=>hn1' (r▸q)),hfr2.rt,(hdd.2 bt (.inr (.inl (.inr (.inr rfl))))).2⟩,⟨fun i q=> ?_,fun i q=>⟨by rw[hz];exact(hdd.2 i (.inl q)).1,fun r=> ?_⟩⟩,⟨?_,fun i q=> ?_⟩,?_⟩
  ·rw[hz]
   rcases q with q | q
   ·exact hdd.1 i q
   ·exact(hdd.2 i (.inr (.inl q))).1
  ·rcases r with r | r
   ·exact(hdd.2 i (.inl q)).2 r
   ·exact hg1 i (.inl r) q
  ·refine((Only.of hw3).trans hk.only (fun i q=> ?_)).trans ho (fun i q=> .inr (by have:=hw3.size;omega))
   rcases q with s | s | s | s
   ·exact .inl (.inl (.inl s))
   ·exact .inl (.inr s)
   ·exact .inl (.inl (.inr s))
   ·exact .inr (hT2 i s).1
  ·rcases q with (q | q) | q
   ·exact hnew i (.inl q)
   ·exact .inl (.inl (.inr q))
   ·exact hnew i (.inr (.inl q))
  ·rcases hfj with ⟨q1,q2⟩ | q
   ·exact .inl ⟨_,by rw[q1],hJ _ _ _ _ q2 (fun i q=>(hdd.2 i (.inl q)).1) hJo⟩
   ·exact .inr ⟨_,List.take_prefix_take_left hjk,hJx _ _ _ _ q (fun i q=>(hdd.2 i (.inl q)).1) hJo⟩
 have HGET:Hid (∀o,o∈ls→getL ls o.id=some o):=fun o ho=>X4e (hT.ids 0 (by omega)) ho
 refine V9j (motive:=fun a=>Code.wpIn Fence.wide 3 Tryz.prog _ _ a _) (fun a0 hA0=> ?_)
 refine Z5v rfl (by decide) (gf:=131) (lb:=#[.pointer (some ⟨fb,0,none⟩),.pointer (some ⟨kb,0,none⟩)]) (by rw[hA0];rfl) trivial (enters_of Tryz.func131 (by kernel_rfl) rfl)
  (X0e (K:=fun b=>b=fb∨b=kb) bg (Ts way) w3 (hT.tr way hw) (Y2a (hd way hw)) (by omega) h34 h35 (.inl rfl) (.inr rfl)) (Ext.refl w3) (fun _=>rfl) Fp (fun i=>G i∨TQ tb ts bt bs w.heap.size fb kb i) (ItT.abides (p:=p) (i:=way) (Nat.lt_of_lt_of_le (htl way hw) hw3.size))
  HIT.out HDI.out (QI tb p ts bt bs w.heap.size fb kb l way bg J all k)
  (fun c pre G W=>c= .ret∧QX tb p ts bt bs w.heap.size fb kb l bg J Jx all k G W)
  (QI.abides hJ) (fun c s G W W' q q2 q3=>⟨q.1,QX.abides hJ hJx G W W' q.2 q2 q3⟩) HFI.out
  (fun x=> { tmps:=(((a0.tmps.setIfInBounds 40 (.string x.1)).setIfInBounds 41 (.string x.2)).setIfInBounds 7 (.string x.1)),defers:= []}) ?assign ?body ?done ?stop
 case assign=>
  intro l x W K hK
  subst hA0
  simp only[V6y,V8i,List.setIfInBounds_toArray,List.set_cons_succ,List.set_cons_zero]at hK ⊢
  gi_wp2
  exact hK
 case body=>
  rintro l' pre x W F1 G1 ⟨Gc1,rfl,hg1,hpre,hpk,hpa,hfr,hfj⟩ hit hdd hok
  rw[hf.outs]at hok
  obtain⟨m,hm⟩:∃m,pre.length=m:=⟨_,rfl⟩
  rw[hm]at hpre hpk hpa hfj
  have hxm:all[m]?.map (kvW way)=some x:=by
   have e1:(pre++ [x])[m]? =some x:=by rw[←hm];simp
   obtain⟨r,hr⟩:=hok
   have e2:(all.map (kvW way))[m]? =some x:=by rw[←hr,List.getElem?_append_left (by rw[List.length_append,hm];simp)];exact e1
   rwa [List.getElem?_map]at e2
  have hml:m<all.length:=by
   rcases Nat.lt_or_ge m all.length with q | q
   ·exact q
   ·rw[List.getElem?_eq_none q]at hxm;cases hxm
  obtain⟨o,hoe⟩:∃o,all[m]=o:=⟨_,rfl⟩
  rw[List.getElem?_eq_getElem hml,hoe]at hxm
  obtain rfl:kvW way o=x:=by injection hxm
  have hol:o∈ls:=by rw[←hoe];exact hf.mem _ (List.getElem_mem hml)
  have hoc:=hT.ok way hw o hol
  have c5:W.cell? ⟨bs,0,none⟩=some (.string bg):=hfr.rs.cell 0
  have c2:W.cell? ⟨bt,0,none⟩=some (tp tb):=hfr.rt.cell 0
  have cU:=X8m (wayK way o) bg W
  have HFRW:=hD hfr
  have HFJW:=hD hfj
  have HITW:=hD hit
  have HDDW:=hD hdd
  have HTAB:=hD hT
  have HFS:=hD hf
  clear hfr hfj hit hdd hT
  subst hA0
  dsimp only[kvW]
  simp only[List.setIfInBounds_toArray,List.set_cons_succ,List.set_cons_zero]
  cases hu:Z2k (wayK way o) bg with
  | false=>
    rw[hu]at cU
    gi_wp2_with (refine ⟨trivial,?_⟩;gi_at_call 73;refine(CallsIn.inRound l' (callsIn_wide.2 cU)).mono ?_;clear cU;rintro e w5 ⟨rfl,rfl⟩)
    have hmk:m=k:=by
     rcases Nat.lt_or_ge m k with q | q
     ·have:=hf.under m hml q
      rw[hoe,hu]at this;cases this
     ·omega
    exact⟨F1,_,HITW.out,HDDW.out,Keeps.refl,rfl,Gc1,m,rfl,hg1,hpk,hpa,HFRW.out,.inl ⟨hmk,HFJW.out⟩⟩
  | true=>
    rw[hu]at cU
    have hmk:m<k:=by
     rcases Nat.lt_or_ge m k with q | q
     ·exact q
     ·have e:m=k:=by omega
      subst e
      have:=hf.stop hml
      rw[hoe,hu]at this;cases this
    have hin:=OpIn.of hoc
    have hwl:=Y1r way o
    have cS:Calls Tryz.prog 72 #[.string (wayK way o)] W fun e w'=>∃v,e= .returned (.tuple #[v,.int .i64 0])∧OwnL w' W.heap.size 3 1 encN v (wayL way o)∧Ext W w':=X8y (wayL way o) W (hin.way way) (by omega)
    have HIN:=hD hin
    clear hin
    gi_wp2_with (first
     | (refine ⟨trivial,?_⟩;gi_at_call 73;refine(CallsIn.inRound l' (callsIn_wide.2 cU)).mono ?_;clear cU;rintro e w5 ⟨rfl,rfl⟩)
     | (refine ⟨trivial,?_⟩;gi_at_call 72;refine(CallsIn.inRound l' (callsIn_wide.2 cS)).mono ?_;clear cS;rintro e w6 ⟨v6,rfl,ho6,hx6⟩;obtain⟨sb,c6,q6,rfl,hq6,hb6,hs6,hc6⟩:=X5q ho6;have HX6:=hD hx6;clear ho6 hx6))
    have hz6:=HX6.out.size
    have HFR6:Hid (QRows tb p ts bt bs w.heap.size l bg w6):=HFRW.out.only (fb:=fb) (kb:=kb) (Only.of (F:=fun _=>False) HX6.out) (fun _ _ q=>q)
    have HIT6:=hD (HITW.out.ext HX6.out)
    have hF6:∀i,F1 i→i<W.heap.size:=HDDW.out.1
    have HTT:Hid (TblAt w6 tb p ts F1):=HFR6.out.tbl (fb:=fb) (kb:=kb) (fun i q=>(HDDW.out.2 i (.inr q)).2)
    have hid64:In64 o.id:=by have:=HIN.out.id;unfold In64;omega
    have hgl:getL ls o.id=some o:=HGET.out o hol
    have cG:Hid (∀W',Ext w6 W'→Calls Tryz.prog 60 #[tp tb,.int .i64 o.id] W' fun e w'=>e= .returned (.tuple #[.agg #[.int .i64 o.id,.int .i64 o.proc,.int .i64 o.object,.int .i64 o.kind,.int .i64 o.method,.int .i64 o.arg,.int .i64 o.second,.bool o.done,.int .i64 o.result,.int .i64 o.invoke,.int .i64 o.ret],.int .i64 0])∧∃F',(∀i,F' i→i<w'.heap.size)∧PagerAt w' p F' S∧Keeps F1 F' W' w'):=fun W' hW=>by
     have h1:=Z6z o.id W' (HTT.out.ext hW) (HIT6.out.1.ext hW) HTAB.out (hd 0 (by omega)) hid64
     rw[hgl]at h1
     exact h1.mono (fun e w' ⟨q0,F',q1,q2,q3⟩=>⟨q0,fun i=>F' i∧i<w'.heap.size,fun i q=>q.2,q2.shrink,q3.shrink⟩)
    have hq0:IntKind.i64.wrap (q6:Int)=q6:=by rw[IntKind.wrap_i64];omega
    have hq1:(q6:Int)<(q6:Int)+1:=by omega
    have hq2:(0:Int)≤(q6:Int):=by omega
    have hq3:((q6:Int)).toNat=q6:=by omega
    have HCS:Hid (∀W',Ext w6 W'→W'.cell? ⟨bt,0,none⟩=some (tp tb)∧W'.cell? ⟨sb,q6,none⟩=some (.int .i64 o.id)):=fun W' hW=>⟨(HFR6.out.rt.ext hW HFR6.out.rt.lt).cell 0,(hW.cell (p:=⟨sb,q6,none⟩) hs6).trans hc6⟩
    have hnbt:¬F1 bt:=(HDDW.out.2 _ (.inr (.inl (.inr (.inr rfl))))).2
    have hnsb:¬F1 sb:=fun q=>by have:=hF6 _ q;omega
    have hn6:¬F1 w6.heap.size:=fun q=>by have:=hF6 _ q;omega
    have HC7:Hid (∀(F7:Nat→Prop) (w7 W':World),Keeps F1 F7 w6 w7→Ext w7 W'→W'.cell? ⟨bt,0,none⟩=some (tp tb)∧W'.cell? ⟨sb,q6,none⟩=some (.int .i64 o.id)):=fun F7 w7 W' hk hx=>by
     have hr:=hk.only.row HFR6.out.rt hnbt
     have hz:=hk.only.size
     exact⟨(hr.ext hx hr.lt).cell 0,(hx.cell (p:=⟨sb,q6,none⟩) (by show sb<_;omega)).trans ((hk.only.cell hs6 hnsb).trans hc6)⟩
    have HPL:=hD hm
    have htl':(all.take m).length=m:=by rw[List.length_take];omega
    have htk:all.take m++ [o]=all.take (m+1):=by rw[List.take_add_one,List.getElem?_eq_getElem hml,hoe];rfl
    have HTK:Hid (((all.take m).length:Nat)=m∧all.take m++ [o]=all.take (m+1)):=⟨htl',htk⟩
    have HPX:Hid (pre++ [kvW way o]=(all.take (m+1)).map (kvW way)):=by unfold Hid;rw[←htk,List.map_append,←hpre];rfl
    have HJ8:Hid (∀F7 w8,Keeps F1 F7 w6 w8→J (all.take m) Gc1 w8):=fun F7 w8 hk=>hJ _ _ _ _ HFJW.out (fun i q=>(HDDW.out.2 i (.inl q)).1) (((Only.of HX6.out).trans hk.only (fun i q=> .inl q)).mono (fun i q=> .inl (fun r=>(HDDW.out.2 i (.inl r)).2 q)))
    have HI8:Hid (∀F7 w8,Keeps F1 F7 w6 w8→(∀i,F7 i→i<w8.heap.size)→PagerAt w8 p F7 S→QRows tb p ts bt bs w.heap.size l bg w8∧ItF tb p ts bt S (fun i=>F7 i∨T1 tb ts bt i) w8∧Dis (fun i=>F7 i∨T1 tb ts bt i) Gc1 w8):=fun F7 w8 hk hlow hp8=>by
     have hq8:QRows tb p ts bt bs w.heap.size l bg w8:=HFR6.out.only (fb:=fb) (kb:=kb) hk.only (fun i q=>(HDDW.out.2 i (.inr q)).2)
     have hz8:=hk.only.size
     have hTF7:∀i,TQ tb ts bt bs w.heap.size fb kb i→¬F7 i:=fun i q=>hk.out (by have:=(HDDW.out.2 i (.inr q)).1;omega) (HDDW.out.2 i (.inr q)).2
     refine⟨hq8,⟨F7,rfl,hq8.tbl (fb:=fb) (kb:=kb) hTF7,hp8,hq8.rt,hTF7 _ (.inl (.inr (.inr rfl)))⟩,fun i q=> ?_,fun i q=>⟨by have:=(HDDW.out.2 i (.inl q)).1;omega,fun r=> ?_⟩⟩
     ·rcases q with q | q
      ·exact hlow i q
      ·have:=(HDDW.out.2 i (.inr (.inl q))).1;omega
     ·rcases r with r | r
      ·exact hk.out (by have:=(HDDW.out.2 i (.inl q)).1;omega) (HDDW.out.2 i (.inl q)).2 r
      ·exact hg1 i (.inl r) q
    have HOK:Hid (all.take m++ [o] <+: all.take k):=by unfold Hid;rw[htk];exact List.take_prefix_take_left (by omega)
    have HROUND:Hid (∀(F7 F8' G8:Nat→Prop) (w8 w9:World),Keeps F1 F7 w6 w8→QRows tb p ts bt bs w.heap.size l bg w8→ItF tb p ts bt S F8' w9→Dis F8' G8 w9→Keeps (Un (fun i=>F7 i∨T1 tb ts bt i) Gc1) (Un F8' G8) w8 w9→
      ∃F8:Nat→Prop,ItT p (ts way) way S (fun b=>b=fb∨b=kb) F8 w9∧Dis F8 (fun i=>G8 i∨TQ tb ts bt bs w.heap.size fb kb i) w9∧Keeps (Un F1 (fun i=>Gc1 i∨TQ tb ts bt bs w.heap.size fb kb i)) (Un F8 (fun i=>G8 i∨TQ tb ts bt bs w.heap.size fb kb i)) W w9∧(∀i,TQ tb ts bt bs w.heap.size fb kb i→¬G8 i)∧QRows tb p ts bt bs w.heap.size l bg w9):=fun F7 F8' G8 w8 w9 hk hq8 hi9 hd9 hk9=>X9m hw HX6.out HITW.out HDDW.out hg1 hn12 hk hq8 hi9 hd9 hk9
    clear hm hpre htl' htk
    refine Y4w ?_
    refine V4t (S:=fun W=>W.cell? ⟨bt,0,none⟩=some (tp tb)∧W.cell? ⟨sb,q6,none⟩=some (.int .i64 o.id)) (by kernel_rfl) (by kernel_rfl) (HCS.out _ (by exact Xt)) (fun hHeld=> ?_)
    refine' tkW 0 ?_
    refine' tkW 1 ?_
    refine' tkW 2 ?_
    refine' tkW 3 ?_
    refine' tkW 4 ?_
    refine' tkW 5 ?_
    refine' tkW 6 ?_
    refine Y6d (rs:= [7,11]) (by kernel_rfl) (by simp) ?_;refine AllReadyW.cons rfl (fun K hK=> ?_) (AllReadyW.cons rfl (fun K hK=> ?_) (AllReadyW.nil))
    ·go_simp
     (with_reducible refine(cG.out _ ?_).mono ?_)
     ·exact Xt
     rintro e w7 ⟨rfl,F7,ht7,hp7,hk7⟩
     have HLOW:=hD ht7
     have HK7:Hid (Keeps F1 F7 w6 w7):=Keeps.trans (Keeps.of (by exact Xt)) hk7
     have HP7:=hD hp7
     clear ht7 hp7 hk7
     (try dsimp only)
     (try go_simp)
     refine hK.out _ _ (HC7.out _ _ _ HK7.out (Ext.refl _)) (fun hHeld=> ?_)
     clear hK K
     refine ptW ?_
     refine' tkW 8 ?_
     refine' tkW 9 ?_
     refine' tkW 10 ?_
     refine stpW 11 (fun K hK=> ?_);go_simp
     skip
     refine hK.out _ _ (HC7.out _ _ _ HK7.out (by exact Xt)) (fun hHeld=> ?_)
     clear hK K
     refine ptW ?_
     refine stpW 12 (fun K hK=> ?_);go_simp
     generalize hw8:World.alloc _ _=w8
     have HZ:Hid (Keeps F1 F7 w6 w8∧Row1 w8 w7.heap.size 32 o.cells∧PagerAt w8 p F7 S∧∀i,F7 i→i<w8.heap.size):=by unfold Hid;rw[←hw8];exact⟨HK7.out.ext (Ext.alloc _ _),Row1.made w7 _ o.cells,HP7.out.ext (Ext.alloc _ _),fun i q=>Nat.lt_of_lt_of_le (HLOW.out i q) (Ext.alloc _ _).size⟩
     clear hw8
     refine hK.out _ _ (HC7.out _ _ _ HZ.out.1 (Ext.refl _)) (fun hHeld=> ?_)
     clear hK K
     refine ptW ?_
     refine' tkW 13 ?_
     refine Y4m (by kernel_rfl) ?_ _
     generalize w7.heap.size=D at *
     dsimp only[V5p]
     obtain⟨o0,o1,o2,o3,o4,o5,o6,o7,o8,o9,o10⟩:=At11.row HZ.out.2.1
     obtain⟨hq8,hi8,hd8⟩:=HI8.out F7 w8 HZ.out.1 HZ.out.2.2.2 HZ.out.2.2.1
     have HQ8:=hD hq8
     have y0:w8.cell? ⟨w.heap.size,0,none⟩=some (.func (.yield l) #[] #[]):=hq8.ry.cell 0
     obtain⟨fn9,tm9,as9,bo9,hy9,hR9⟩:=hY (all.take m) o w8 _ Gc1 (HJ8.out F7 w8 HZ.out.1) hi8 hd8 HOK.out
     dsimp only[X7j]at hy9
     have hy8:(Instr.yield l #[.agg #[.int .i64 o.id,.int .i64 o.proc,.int .i64 o.object,.int .i64 o.kind,.int .i64 o.method,.int .i64 o.arg,.int .i64 o.second,.bool o.done,.int .i64 o.result,.int .i64 o.invoke,.int .i64 o.ret]]).run Tryz.prog w8= .ok (.round l fn9 tm9 as9 bo9) w8:=hy9
     have HR9:=hD hR9
     clear hq8 hi8 hd8 hy9 hR9
     gi_wp2_with fail
     refine RoundIn.mono (Y5h l' HR9.out) ?_
     rintro e w9 ⟨F8',G8,hi9,hd9,hk9,hj9⟩
     have HFIN:=hD (HROUND.out F7 F8' G8 w8 w9 HZ.out.1 HQ8.out hi9 hd9 hk9)
     rw[HTK.out.2]at hj9
     clear hi9 hd9 hk9
     rcases hj9 with ⟨rfl,hj8⟩ | ⟨rfl,hj8⟩
     ·have HJ9:=hD hj8
      clear hj8
      gi_wp2
      obtain⟨F9,r1,r2,r3,r4,r5⟩:=HFIN.out
      exact⟨F9,_,r1,r2,r3,G8,rfl,r4,by rw[List.length_append,HPL.out,List.length_singleton];exact HPX.out,by rw[List.length_append,HPL.out,List.length_singleton];exact hmk,by rw[List.length_append,HPL.out,List.length_singleton];exact hml,r5,by rw[List.length_append,HPL.out,List.length_singleton];exact HJ9.out⟩
     ·have HJ9:=hD hj8
      clear hj8
      gi_wp2
      obtain⟨F9,r1,r2,r3,r4,r5⟩:=HFIN.out
      exact⟨F9,_,r1,r2,r3,rfl,G8,m+1,rfl,r4,hmk,hml,r5,.inr HJ9.out⟩
    ·go_simp
     skip
     refine hK.out _ _ (HCS.out _ (by exact Xt)) (fun hHeld=> ?_)
     clear hK K
     refine ptW ?_
     refine stpW 7 (fun K hK=> ?_);go_simp
     (with_reducible refine(cG.out _ ?_).mono ?_)
     ·exact Xt
     rintro e w7 ⟨rfl,F7,ht7,hp7,hk7⟩
     have HLOW:=hD ht7
     have HK7:Hid (Keeps F1 F7 w6 w7):=Keeps.trans (Keeps.of (by exact Xt)) hk7
     have HND:Hid (¬F7 w6.heap.size):=hk7.out (by simp) hn6
     have HRD:Hid (Row1 w7 w6.heap.size 32 opZero.cells):=hk7.only.row (Row1.made' (by simp) _ opZero.cells) hn6
     have HP7:=hD hp7
     clear ht7 hp7 hk7
     (try dsimp only)
     (try go_simp)
     refine hK.out _ _ (HC7.out _ _ _ HK7.out (Ext.refl _)) (fun hHeld=> ?_)
     clear hK K
     refine ptW ?_
     refine' tkW 8 ?_
     refine' tkW 9 ?_
     refine' tkW 10 ?_
     obtain⟨a0,a1,a2,a3,a4,a5,a6,a7,a8,a9,a10⟩:=Z1p (show Row1 w7 w6.heap.size 32 [.int .i64 0,.int .i64 0,.int .i64 0,.int .i64 0,.int .i64 0,.int .i64 0,.int .i64 0,.bool false,.int .i64 0,.int .i64 0,.int .i64 0]from HRD.out)
     obtain⟨f0,f1,f2,f3,f4,f5,f6,f7,f8,f9,f10⟩:=Z4d HRD.out
     refine stpW 12 (fun K hK=> ?_);go_simp
     have HO8:=hD (Z7f w7 w6.heap.size (.int .i64 o.id) (.int .i64 o.proc) (.int .i64 o.object) (.int .i64 o.kind) (.int .i64 o.method) (.int .i64 o.arg) (.int .i64 o.second) (.bool o.done) (.int .i64 o.result) (.int .i64 o.invoke) (.int .i64 o.ret))
     have HR8:=hD (Z5b (show Row1 w7 w6.heap.size 32 [.int .i64 0,.int .i64 0,.int .i64 0,.int .i64 0,.int .i64 0,.int .i64 0,.int .i64 0,.bool false,.int .i64 0,.int .i64 0,.int .i64 0]from HRD.out) (.int .i64 o.id) (.int .i64 o.proc) (.int .i64 o.object) (.int .i64 o.kind) (.int .i64 o.method) (.int .i64 o.arg) (.int .i64 o.second) (.bool o.done) (.int .i64 o.result) (.int .i64 o.invoke) (.int .i64 o.ret))
     generalize hw8:World.setCell _ _ _=w8 at HO8 HR8 ⊢
     have HZ:Hid (Keeps F1 F7 w6 w8∧Row1 w8 w6.heap.size 32 o.cells∧PagerAt w8 p F7 S∧∀i,F7 i→i<w8.heap.size):=⟨⟨HK7.out.only.trans HO8.out (fun i q=> .inr (by omega)),HK7.out.new⟩,HR8.out,HP7.out.only HO8.out (fun i q e=>HND.out (e▸q)),fun i q=>Nat.lt_of_lt_of_le (HLOW.out i q) HO8.out.size⟩
     clear hw8 a0 a1 a2 a3 a4 a5 a6 a7 a8 a9 a10 f0 f1 f2 f3 f4 f5 f6 f7 f8 f9 f10
     refine hK.out _ _ (HC7.out _ _ _ HZ.out.1 (Ext.refl _)) (fun hHeld=> ?_)
     clear hK K
     refine ptW ?_
     refine' tkW 13 ?_
     refine Y4m (by kernel_rfl) ?_ _
     generalize w6.heap.size=D at *
     dsimp only[V5p]
     obtain⟨o0,o1,o2,o3,o4,o5,o6,o7,o8,o9,o10⟩:=At11.row HZ.out.2.1
     obtain⟨hq8,hi8,hd8⟩:=HI8.out F7 w8 HZ.out.1 HZ.out.2.2.2 HZ.out.2.2.1
     have HQ8:=hD hq8
     have y0:w8.cell? ⟨w.heap.size,0,none⟩=some (.func (.yield l) #[] #[]):=hq8.ry.cell 0
     obtain⟨fn9,tm9,as9,bo9,hy9,hR9⟩:=hY (all.take m) o w8 _ Gc1 (HJ8.out F7 w8 HZ.out.1) hi8 hd8 HOK.out
     dsimp only[X7j]at hy9
     have hy8:(Instr.yield l #[.agg #[.int .i64 o.id,.int .i64 o.proc,.int .i64 o.object,.int .i64 o.kind,.int .i64 o.method,.int .i64 o.arg,.int .i64 o.second,.bool o.done,.int .i64 o.result,.int .i64 o.invoke,.int .i64 o.ret]]).run Tryz.prog w8= .ok (.round l fn9 tm9 as9 bo9) w8:=hy9
     have HR9:=hD hR9
     clear hq8 hi8 hd8 hy9 hR9
     gi_wp2_with fail
     refine RoundIn.mono (Y5h l' HR9.out) ?_
     rintro e w9 ⟨F8',G8,hi9,hd9,hk9,hj9⟩
     have HFIN:=hD (HROUND.out F7 F8' G8 w8 w9 HZ.out.1 HQ8.out hi9 hd9 hk9)
     rw[HTK.out.2]at hj9
     clear hi9 hd9 hk9
     rcases hj9 with ⟨rfl,hj8⟩ | ⟨rfl,hj8⟩
     ·have HJ9:=hD hj8
      clear hj8
      gi_wp2
      obtain⟨F9,r1,r2,r3,r4,r5⟩:=HFIN.out
      exact⟨F9,_,r1,r2,r3,G8,rfl,r4,by rw[List.length_append,HPL.out,List.length_singleton];exact HPX.out,by rw[List.length_append,HPL.out,List.length_singleton];exact hmk,by rw[List.length_append,HPL.out,List.length_singleton];exact hml,r5,by rw[List.length_append,HPL.out,List.length_singleton];exact HJ9.out⟩
     ·have HJ9:=hD hj8
      clear hj8
      gi_wp2
      obtain⟨F9,r1,r2,r3,r4,r5⟩:=HFIN.out
      exact⟨F9,_,r1,r2,r3,rfl,G8,m+1,rfl,r4,hmk,hml,r5,.inr HJ9.out⟩
 case done=>
  rintro D pre0 W F1 G1 jH hxs ⟨Gc1,rfl,hg1,hpre,hpk,hpa,hfr,hfj⟩ hit hdd hn1' hn2' hk hK
  have hpk':pre0.length=k:=by
   have:=hf.le
   have e:=congrArg List.length hxs
   rw[hf.outs,List.length_map]at e
   omega
  have HFIN:=HE.out D W F1 Gc1 _ jH hg1 hpk hpa hfr (.inl ⟨hpk',hfj⟩) hit hdd hn1' hn2' hk
  have HK:=hD hK
  have HFN:=hD HFIN
  clear hk hit hdd hK hfr hfj HFIN
  subst hA0
  gi_wp2
  exact⟨by simp,.inl ⟨_,_,rfl,run_takeDeferred HK.out,_,results_none rfl _ _ _,⟨_,rfl⟩,HFN.out⟩⟩
 case stop=>
  rintro D c pre W F1 G1 jH hpre ⟨rfl,Gc1,j,rfl,hg1,hjk,hja,hfr,hfj⟩ hit hdd hn1' hn2' hk hK
  have HFIN:=HE.out D W F1 Gc1 _ jH hg1 hjk hja hfr hfj hit hdd hn1' hn2' hk
  have HK:=hD hK
  have HFN:=hD HFIN
  clear hk hit hdd hK hfr hfj HFIN
  subst hA0
  gi_wp2
  exact⟨by simp,.inl ⟨_,_,rfl,run_takeDeferred HK.out,_,results_none rfl _ _ _,⟨_,rfl⟩,HFN.out⟩⟩
theorem X2k{A:Option Addr}{n c bt bw bf tb p m:Nat}{ts:Nat→Nat}{S:StoreD}{Ts:Nat→TrD}{ls all:List OpD}{k:Nat}(way:Nat)(fl:List Int)(w:World)
 (hT:Tab S Ts (fun _=>ls))(hd:∀i,i<5→depT (Ts i)≤31)(hw:way<5)(h2:Row1 w bw 3 [.int .i64 (way:Nat)])(h3:Row1 w bf 23 [.slice A n c])
 (hs:Sl w 1 (fun x cs=>cs=encN x) (.slice A n c) fl)(hl:∀x∈fl,In64 x)(h4:fl.length≤4)(hf:Finds Ts way (bts (keyL fl)) ls all k)(hal:all.length≤100000):
  SeqO Fence.wide m Tryz.prog 129 #[.pointer (some ⟨bf,0,none⟩),.pointer (some ⟨bt,0,none⟩),.pointer (some ⟨bw,0,none⟩)] X7j (ItF tb p ts bt S) (fun xs=>xs=all.take k) (fun pre=>pre <+: all.take k) (fun pre x=>pre++ [x] <+: all.take k) w:=by
 intro l J Jx W F G hx hit hdis hJ hJx hY h0
 refine callsIn_wide.2 ((V2l l way fl W hit hdis hJ hJx (fun pre x W1 F1 G1 q1 q2 q3 q4=>Y0z (hY pre x W1 F1 G1 q1 q2 q3 q4)) h0 hT hd hw (h2.ext hx h2.lt) (h3.ext hx h3.lt) (hs.ext hx) hl h4 hf hal).mono (fun e w' h=>⟨h.1,h.2.out⟩))
end Go.Proofs.YtmiolpfanlpfnaaGreat
namespace Go.Proofs.YtmiolpfanlpfnaaGreat
set_option linter.unusedSimpArgs false
set_option linter.unusedVariables false
open Go.RowKit
theorem U0z{x y:UInt8}(h1:¬y<x)(h2:¬x<y):y=x:=by
 have a:=UInt8.not_lt.1 h1
 have b:=UInt8.not_lt.1 h2
 exact UInt8.le_antisymm b a
theorem Y2v:∀(p a b:List UInt8),p <+: b→¬a<p→¬b<a→p <+: a
 | [],a,_,_,_,_=>List.nil_prefix
 | x::p,[],_,_,h,_=>absurd (List.nil_lt_cons x p) h
 | x::p,y::a,[],h,_,_=>absurd h (by simp)
 | x::p,y::a,z::b,h,h1,h2=>by
   obtain⟨rfl,hp⟩:=List.cons_prefix_cons.1 h
   have e1:¬y<x:=fun q=>h1 (List.cons_lt_cons_iff.2 (.inl q))
   have e2:¬x<y:=fun q=>h2 (List.cons_lt_cons_iff.2 (.inl q))
   obtain rfl:=U0z e1 e2
   exact List.cons_prefix_cons.2 ⟨rfl,Y2v p a b hp (fun q=>h1 (List.cons_lt_cons_iff.2 (.inr ⟨rfl,q⟩))) (fun q=>h2 (List.cons_lt_cons_iff.2 (.inr ⟨rfl,q⟩)))⟩
theorem Y5k:∀(p a:List UInt8),p <+: a→¬a<p
 | [],a,_,h=>absurd h (List.not_lt_nil a)
 | x::p,[],h,_=>absurd h (by simp)
 | x::p,y::a,h,q=>by
   obtain⟨rfl,hp⟩:=List.cons_prefix_cons.1 h
   rcases List.cons_lt_cons_iff.1 q with r | ⟨_,r⟩
   ·exact absurd r (UInt8.lt_irrefl x)
   ·exact Y5k p a hp r
theorem Z8i(a b:List UInt8):Z2k (bts a) (bts b)=true↔b <+: a:=by rw[X5j,List.isPrefixOf_iff_prefix]
theorem X1w(a b:List UInt8):ltB (bts a) (bts b)=true↔a<b:=by rw[Z6n,Z1w,Z1w]
theorem Y6o{a b c:List UInt8}(h1:Z2k (bts c) (bts a)=true)(h2:ltB (bts b) (bts a)=false)(h3:ltB (bts c) (bts b)=false):Z2k (bts b) (bts a)=true:=
 (Z8i _ _).2 (Y2v a b c ((Z8i _ _).1 h1) (fun q=>by rw[(X1w b a).2 q]at h2;cases h2) (fun q=>by rw[(X1w c b).2 q]at h3;cases h3))
theorem X5i{a c:List UInt8}(h1:Z2k (bts c) (bts a)=true):ltB (bts c) (bts a)=false:=by
 cases h:ltB (bts c) (bts a)with
 | false=>rfl
 | true=>exact absurd ((X1w c a).1 h) (Y5k a c ((Z8i _ _).1 h1))
section
variable {S:StoreD} {Ts:Nat→TrD} {l all:List OpD} {way k:Nat} {fr:List UInt8}
theorem Finds.rise(hT:Tab S Ts (fun _=>l))(hw:way<5)(hf:Finds Ts way (bts fr) l all k):all.Pairwise (fun a b=>ltB (wayK way a) (wayK way b)=true):=by
 have h:=(TrS.rise (hT.tr way hw)).filter (fun x=> !ltB x.1 (bts fr))
 have e:(Ts way).list.filter (fun x=> !ltB x.1 (bts fr))=all.map (kvW way):=hf.outs
 rw[e,List.pairwise_map]at h
 exact h
theorem Finds.nodup(hT:Tab S Ts (fun _=>l))(hw:way<5)(hf:Finds Ts way (bts fr) l all k):all.Nodup:=
 (hf.rise hT hw).imp (fun {a b} h e=>by rw[e,Z1k]at h;cases h)
theorem Finds.mem_iff(hT:Tab S Ts (fun _=>l))(hw:way<5)(hf:Finds Ts way (bts fr) l all k)(o:OpD):o∈all.take k↔o∈l∧Z2k (wayK way o) (bts fr)=true:=by
 constructor
 ·intro h
  obtain⟨i,hi,rfl⟩:=List.mem_iff_getElem.1 h
  rw[List.length_take]at hi
  rw[List.getElem_take]
  exact⟨hf.mem _ (List.getElem_mem _),hf.under i (by omega) (by omega)⟩
 ·rintro⟨ho,hu⟩
  have h1:kvW way o∈Z1g (Ts way).list (bts fr):=List.mem_filter.2 ⟨(hT.mem way hw _).2 ⟨o,ho,rfl⟩,by
   rw[show ltB (kvW way o).1 (bts fr)=false from X5i hu];rfl⟩
  rw[hf.outs]at h1
  obtain⟨a,ha,e⟩:=List.mem_map.1 h1
  have hoc:=OpIn.of (hT.ok way hw o ho)
  have hac:=OpIn.of (hT.ok way hw a (hf.mem a ha))
  obtain rfl:a=o:=Y7q (hT.ids way hw) (hf.mem a ha) ho (Y1s (hac.way way) (hoc.way way) (congrArg Prod.fst e))
  obtain⟨i,hi,rfl⟩:=List.mem_iff_getElem.1 ha
  rcases Nat.lt_or_ge i k with q | q
  ·exact List.mem_iff_getElem.2 ⟨i,by rw[List.length_take];omega,by rw[List.getElem_take]⟩
  ·exfalso
   have hk:k<all.length:=by omega
   have hs:=hf.stop hk
   have hr:=hf.rise hT hw
   have h2:Z2k (wayK way all[k]) (bts fr)=true:=by
    by_cases e2:k=i
    ·subst e2;exact hu
    ·have h3:=List.pairwise_iff_getElem.1 hr k i hk hi (by omega)
     have h4:kvW way all[k]∈Z1g (Ts way).list (bts fr):=by rw[hf.outs];exact List.mem_map.2 ⟨_,List.getElem_mem _,rfl⟩
     have h5:=(List.mem_filter.1 h4).2
     exact Y6o hu (show ltB (wayK way all[k]) (bts fr)=false by simpa [kvW]using h5) (Z3q h3)
   rw[hs]at h2;cases h2
theorem Finds.perm(hT:Tab S Ts (fun _=>l))(hw:way<5)(hf:Finds Ts way (bts fr) l all k):(all.take k).Perm (l.filter (fun o=>Z2k (wayK way o) (bts fr))):=by
 have hn:l.Nodup:=(hT.ids way hw).imp (fun {a b} h e=>h (by rw[e]))
 rw[List.perm_ext_iff_of_nodup ((hf.nodup hT hw).sublist (List.take_sublist _ _)) (hn.filter _)]
 intro o
 rw[hf.mem_iff hT hw,List.mem_filter]
theorem Finds.some(hT:Tab S Ts (fun _=>l))(hw:way<5)(hf:Finds Ts way (bts fr) l all k)(pr:OpD→Bool)(h:∀o∈l,pr o=true→Z2k (wayK way o) (bts fr)=true):((all.take k).filter pr).Perm (l.filter pr):=by
 refine((hf.perm hT hw).filter pr).trans ?_
 rw[List.filter_filter]
 refine List.Perm.of_eq (List.filter_congr (fun o ho=> ?_))
 cases hp:pr o with
 | false=>rfl
 | true=>rw[h o ho hp];rfl
end
theorem V5z:∀(a b:List Int),a <+: b→keyL a <+: keyL b:=fun a b ⟨r,h⟩=>⟨keyL r,by rw[←h];unfold keyL;rw[List.flatMap_append]⟩
theorem X8l{way:Nat}{o:OpD}{fl:List Int}(h:fl <+: wayL way o):Z2k (wayK way o) (bts (keyL fl))=true:=(Z8i _ _).2 (V5z _ _ h)
end Go.Proofs.YtmiolpfanlpfnaaGreat
