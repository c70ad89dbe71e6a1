/- table.Find's closure, with what a statement keeps as its yield: the walk. Conditions: a table's trees. -/
import Derived.Test.YtmiolpfanlpfnaaGreatT42
set_option maxRecDepth 100000
set_option maxHeartbeats 4000000
set_option linter.unusedSimpArgs false
set_option linter.unusedVariables false
namespace Go.Proofs.YtmiolpfanlpfnaaGreat
section
open Go.RowKit
attribute [local go_sem] Oper.semAt_some
theorem FJ.shrink{bl bm:Nat}{most:Int}{pre:List OpD}{G:Nat→Prop}{W:World}(h:FJ bl bm most pre G W):FJ bl bm most pre (fun i=>G i∧i<W.heap.size) W:=by
 obtain⟨A,c,h1,h2,h3⟩:=h.list
 exact⟨⟨A,c,h1,h2,fun k hk=>⟨h3 k hk,(h1.lt k hk).2⟩⟩,h.most,⟨h.gl,h2.lt⟩,⟨h.gm,h.most.lt⟩⟩
theorem X0j{tb p:Nat}{ts:Nat→Nat}{bt bw bs by_ bl bm way:Nat}{bg:ByteArray}{T K F1 F7 Gc1 G9:Nat→Prop}{S:StoreD}{most:Int}{pre:List OpD}{W w6 w8 w9:World}(hw:way<5)(hx:Ext W w6)(hit:ItT p (ts way) way S K F1 W)(hdd:Dis F1 (fun i=>Gc1 i∨T i) W)(hg1:∀i,T i→¬Gc1 i)
 (hk:Keeps F1 F7 w6 w8)(hp8:PagerAt w8 p F7 S)(hf8:FRows tb p ts bt bw bs by_ bl bm way bg T w8)(hk9:Keeps Gc1 G9 w8 w9)(hj:FJ bl bm most pre G9 w9):
  ∃F8 G8:Nat→Prop,ItT p (ts way) way S K F8 w9∧Dis F8 (fun i=>G8 i∨T i) w9∧Keeps (Un F1 (fun i=>Gc1 i∨T i)) (Un F8 (fun i=>G8 i∨T i)) W w9∧(∀i,T i→¬G8 i)∧FRows tb p ts bt bw bs by_ bl bm way bg T w9∧FJ bl bm most pre G8 w9:=by
 have z1:=hx.size
 have z2:=hk.only.size
 have z3:=hk9.only.size
 have hGF:∀i,Gc1 i→¬F7 i:=fun i q=>hk.out (by have:=(hdd.2 i (.inl q)).1;omega) (hdd.2 i (.inl q)).2
 have hTF:∀i,T i→i<W.heap.size∧¬F7 i:=fun i q=>⟨(hdd.2 i (.inr q)).1,hk.out (by have:=(hdd.2 i (.inr q)).1;omega) (hdd.2 i (.inr q)).2⟩
 refine⟨fun i=>F7 i∧i<w8.heap.size,fun i=>G9 i∧i<w9.heap.size,⟨hp8.shrink.only hk9.only (fun i q r=>hGF i r q.1),(hf8.only hk9.only hg1).tree way hw,fun q=>(hTF _ (hf8.t2 way hw)).2 q.1,fun b q=> ?_⟩,⟨fun i q=>by omega,fun i q=> ?_⟩,⟨?_,fun i q=> ?_⟩,fun i q r=>hk9.out (by have:=(hTF i q).1;omega) (hg1 i q) r.1,hf8.only hk9.only hg1,hj.shrink⟩
 ·have:=hit.2.2.2 b q
  exact⟨fun r=>hk.out (by omega) this.1 r.1,by omega⟩
 ·rcases q with q | q
  ·refine⟨q.2,fun r=> ?_⟩
   rcases hk9.new i q.1 with s | s
   ·exact hGF i s r.1
   ·omega
  ·exact⟨by have:=(hTF i q).1;omega,fun r=>(hTF i q).2 r.1⟩
 ·exact((Only.of hx).trans hk.only (fun i q=> .inl (.inl q))).trans hk9.only (fun i q=> .inl (.inr (.inl q)))
 ·rcases q with q | q | q
  ·rcases hk.new i q.1 with s | s
   ·exact .inl (.inl s)
   ·exact .inr (by omega)
  ·rcases hk9.new i q.1 with s | s
   ·exact .inl (.inr (.inl s))
   ·exact .inr (by omega)
  ·exact .inl (.inr (.inr q))
theorem V1h{A:Option Addr}{n c bt bw bf bl bm tb p:Nat}{ts:Nat→Nat}{F Gc:Nat→Prop}{S:StoreD}{Ts:Nat→TrD}{l all:List OpD}{k:Nat}{most:Int}(way:Nat)(fl:List Int)(w:World)
 (ht:TblAt w tb p ts F)(hp:PagerAt w p F S)(hT:Tab S Ts (fun _=>l))(hd:∀i,i<5→depT (Ts i)≤31)(hw:way<5)
 (h1:Row1 w bt 26 [tp tb])(h2:Row1 w bw 3 [.int .i64 (way:Nat)])(h3:Row1 w bf 23 [.slice A n c])(n1:¬F bt)(n2:¬F bw)
 (hs:Sl w 1 (fun x cs=>cs=encN x) (.slice A n c) fl)(hl:∀x∈fl,In64 x)(h4:fl.length≤4)(hf:Finds Ts way (bts (keyL fl)) l all k)(hal:all.length≤100000)(hm:0<most)
 (hj:FJ bl bm most [] Gc w)(hG:∀i,Gc i→i<w.heap.size∧¬F i∧i≠tb∧i≠bt∧i≠bw∧∀j,j<5→i≠ts j):
  Calls Tryz.prog 129 #[.func (.func 66) #[] #[.pointer (some ⟨bl,0,none⟩),.pointer (some ⟨bm,0,none⟩)],.pointer (some ⟨bf,0,none⟩),.pointer (some ⟨bt,0,none⟩),.pointer (some ⟨bw,0,none⟩)] w fun e w'=>
   (∃v,e= .returned v)∧∃(F2 G2:Nat→Prop) (j:Nat),j≤k∧j≤all.length∧((j=k∨most≤(j:Int))∧(j:Int)≤most)∧TblAt w' tb p ts F2∧PagerAt w' p F2 S∧FJ bl bm most (all.take j) G2 w'∧Keeps (Un F Gc) (Un F2 G2) w w':=by
 have hof:OfR fl= .tuple #[.string (bts (keyL fl)),.int .i64 0]:=by unfold OfR;rw[if_neg (by omega)]
 have hn4:n≤4:=by have:=hs.at.1;omega
 have cO:Hid (∀W,Ext w W→Calls Tryz.prog 68 #[.slice A n c] W fun e w'=>e= .returned (.tuple #[.string (bts (keyL fl)),.int .i64 0])∧Ext W w'):=fun W hW=>by rw[←hof];exact V7a fl W (hs.ext hW) hl (by omega)
 have cM:Hid (∀W,Ext w W→Calls Tryz.prog 70 #[tp tb] W fun e w'=>e= .returned (.bool true)∧W=w'):=fun W hW=>Z4m W (ht.ext hW).row
 have HC:Hid (∀W,Ext w W→W.cell? ⟨bt,0,none⟩=some (tp tb)∧W.cell? ⟨bw,0,none⟩=some (.int .i64 (way:Nat))∧W.cell? ⟨bf,0,none⟩=some (.slice A n c)):=fun W hW=>⟨(h1.ext hW h1.lt).cell 0,(h2.ext hW h2.lt).cell 0,(h3.ext hW h3.lt).cell 0⟩
 obtain⟨bg,hbg⟩:∃bg,bts (keyL fl)=bg:=⟨_,rfl⟩
 rw[hbg]at cO hf
 clear hof hbg hs hl h4
 refine callsIn_wide (n:=3).1 ?_
 refine callsIn_of_wp_marks Tryz.func129 rfl trivial ?_ rfl
 simp only[Tryz.ntmps129,List.size_toArray,List.length_cons,List.length_nil,Nat.reduceAdd,Nat.reduceSub,Array.replicate_succ,Array.replicate_zero,List.push_toArray,List.append_toArray,List.nil_append,List.cons_append]
 obtain⟨W0,hW0⟩:∃W0,w.alloc (.cells #[.func (.func 66) #[] #[.pointer (some ⟨bl,0,none⟩),.pointer (some ⟨bm,0,none⟩)]] 46)=W0:=⟨_,rfl⟩
 have HX0:Hid (Ext w W0):=by unfold Hid;rw[←hW0];exact Ext.alloc _ _
 have HY0:Hid (Row1 W0 w.heap.size 46 [.func (.func 66) #[] #[.pointer (some ⟨bl,0,none⟩),.pointer (some ⟨bm,0,none⟩)]]):=by unfold Hid;rw[←hW0];exact Row1.made w _ _
 obtain⟨d1,d2,d3⟩:=HC.out _ HX0.out
 have q1:decide ((way:Int)<0)=false:=decide_eq_false (by omega)
 have q2:decide ((5:Int)≤(way:Int))=false:=decide_eq_false (by omega)
 gi_wp2_with (first
  | (refine ⟨trivial,?_⟩;gi_at_call 68;refine(callsIn_wide.2 (cO.out _ HX0.out)).mono ?_;clear cO;rintro e w1 ⟨rfl,hb1⟩;have HB1:Hid (Ext w w1):=HX0.out.trans hb1;have HX1:=hD hb1;clear hb1;obtain⟨e1,e2,e3⟩:=HC.out _ (HB1.out.trans (Ext.alloc _ (.cells #[.string bg] 9))))
  | (refine ⟨trivial,?_⟩;gi_at_call 70;refine(callsIn_wide.2 (cM.out _ (HB1.out.trans (Ext.alloc _ _)))).mono ?_;clear cM;rintro e w2 ⟨rfl,rfl⟩))
 have hx2:Ext w (w1.alloc (.cells #[.string bg] 9)):=HB1.out.trans (Ext.alloc _ _)
 have HBS:Hid (Row1 (w1.alloc (.cells #[.string bg] 9)) w1.heap.size 9 [.string bg]):=Row1.made w1 _ _
 have HYY:Hid (Row1 (w1.alloc (.cells #[.string bg] 9)) w.heap.size 46 [.func (.func 66) #[] #[.pointer (some ⟨bl,0,none⟩),.pointer (some ⟨bm,0,none⟩)]]):=Row1.alloc (HY0.out.ext HX1.out HY0.out.lt) _
 have hzb:w.heap.size<w1.heap.size:=Nat.lt_of_lt_of_le HY0.out.lt HX1.out.size
 have HTC:Hid (w.cell? ⟨tb,way,none⟩=some (tp (ts way))):=by unfold Hid;rw[ht.row.cell way,Y6e _ _ _ hw,if_pos hw]
 have htbl:=ht.row.lt
 generalize hW2:w1.alloc _=W2 at *
 generalize w1.heap.size=bs at *
 have HX2:=hD hx2
 have HCC:Hid (∀W,Ext W2 W→W.cell? ⟨bt,0,none⟩=some (tp tb)∧W.cell? ⟨bw,0,none⟩=some (.int .i64 (way:Nat))∧W.cell? ⟨bs,0,none⟩=some (.string bg)∧W.cell? ⟨tb,way,none⟩=some (tp (ts way))):=fun W hW=>
  ⟨(HC.out _ (HX2.out.trans hW)).1,(HC.out _ (HX2.out.trans hW)).2.1,(HBS.out.ext hW HBS.out.lt).cell 0,((HX2.out.trans hW).cell (p:=⟨tb,way,none⟩) htbl).trans HTC.out⟩
 have cF:Hid (∀W,Calls Tryz.prog 71 #[.pointer (some ⟨ts way,0,none⟩),.string bg] W (V2o (ts way) bg W)):=fun W=>X3j (ts way) bg W
 have hw0:(0:Int)≤(way:Int):=by omega
 have hw5:(way:Int)<5:=by omega
 clear hW2 hx2 e1 e2 e3 hW0 d1 d2 d3
 refine Y4n (wpIn_wide.2 ?_)
 refine wp_region_held_drew (S:=fun W=>W.cell? ⟨bt,0,none⟩=some (tp tb)∧W.cell? ⟨bw,0,none⟩=some (.int .i64 (way:Nat))∧W.cell? ⟨bs,0,none⟩=some (.string bg)∧W.cell? ⟨tb,way,none⟩=some (tp (ts way))) (by kernel_rfl) (HCC.out _ (by exact Xt)) (fun hHeld=> ?_)
 refine' tk 0 ?_
 refine' tk 1 ?_
 refine' tk 2 ?_
 refine' tk 3 ?_
 refine' tk 4 ?_
 refine' tk 5 ?_
 refine' tk 6 ?_
 refine stp 7 (fun K hK=> ?_);go_simp
 (with_reducible refine(cF.out _).mono ?_)
 rintro e w3 ⟨fb,kb,rfl,h31,h32,h33,h34,h35⟩
 have HX3:Hid (Ext W2 w3):=Ext.trans (by exact Xt) h31
 (try dsimp only)
 (try go_simp)
 refine hK.out _ _ (HCC.out _ HX3.out) (fun hHeld=> ?_)
 clear hK K
 refine pt ?_
 refine wpAnyH_done (by kernel_rfl) ?_ _
 dsimp only[V4o]
 gi_wp2
 have hw3:Ext w w3:=HX2.out.trans HX3.out
 have hz3:=HX3.out.size
 have hzw:=HX2.out.size
 have hbs:=HBS.out.lt
 have hyy:=HYY.out.lt
 have hbt:=h1.lt
 have hbw:=h2.lt
 have hfb:W2.heap.size≤fb:=h32
 have hkb:W2.heap.size≤kb:=h33
 have hfl:=h34.lt
 have hkl:=h35.lt
 have hsz:W2.heap.size≤w3.heap.size:=hz3
 have htl:∀j,j<5→ts j<w.heap.size:=fun j hj=>(ht.tree j hj).lt
 obtain⟨T,hTd⟩:∃T:Nat→Prop,T=fun i=>i=tb∨(∃j,j<5∧i=ts j)∨i=bt∨i=bw∨i=bs∨i=w.heap.size:=⟨_,rfl⟩
 have hTF:∀i,T i→i<w3.heap.size∧¬(F i∧i<w.heap.size)∧¬Gc i:=fun i q=>by
  rw[hTd]at q
  rcases q with rfl | ⟨j,hj5,rfl⟩ | rfl | rfl | rfl | rfl
  ·exact⟨by omega,fun r=>ht.out r.1,fun r=>(hG _ r).2.2.1 rfl⟩
  ·exact⟨by have:=htl j hj5;omega,fun r=>ht.outs j hj5 r.1,fun r=>(hG _ r).2.2.2.2.2 j hj5 rfl⟩
  ·exact⟨by omega,fun r=>n1 r.1,fun r=>(hG _ r).2.2.2.1 rfl⟩
  ·exact⟨by omega,fun r=>n2 r.1,fun r=>(hG _ r).2.2.2.2.1 rfl⟩
  ·exact⟨by omega,fun r=>by omega,fun r=>by have:=(hG _ r).1;omega⟩
  ·exact⟨by omega,fun r=>by omega,fun r=>by have:=(hG _ r).1;omega⟩
 have HFR:Hid (FRows tb p ts bt bw bs w.heap.size bl bm way bg T w3):=⟨ht.row.ext hw3 ht.row.lt,fun j hj5=>(ht.tree j hj5).ext hw3 (ht.tree j hj5).lt,h1.ext hw3 h1.lt,h2.ext hw3 h2.lt,HBS.out.ext HX3.out hbs,HYY.out.ext HX3.out hyy,by rw[hTd];exact .inl rfl,fun j hj5=>by rw[hTd];exact .inr (.inl ⟨j,hj5,rfl⟩),by rw[hTd];exact⟨.inr (.inr (.inl rfl)),.inr (.inr (.inr (.inl rfl))),.inr (.inr (.inr (.inr (.inl rfl)))),.inr (.inr (.inr (.inr (.inr rfl))))⟩⟩
 have HIT:Hid (ItT p (ts way) way S (fun b=>b=fb∨b=kb) (fun i=>F i∧i<w.heap.size) w3):=⟨PagerAt.ext (F:=fun i=>F i∧i<w.heap.size) hp.shrink hw3,(ht.tree way hw).ext hw3 (ht.tree way hw).lt,fun q=>ht.outs way hw q.1,fun b q=>by rcases q with rfl | rfl<;>exact⟨fun r=>by omega,by omega⟩⟩
 have HDI:Hid (Dis (fun i=>F i∧i<w.heap.size) (fun i=>Gc i∨T i) w3):=⟨fun i q=>by omega,fun i q=>by
  rcases q with q | q
  ·exact⟨by have:=(hG i q).1;omega,fun r=>(hG i q).2.1 r.1⟩
  ·exact⟨(hTF i q).1,(hTF i q).2.1⟩⟩
 have HFI:Hid (FI tb p ts bt bw bs w.heap.size bl bm way bg T most all k [] (fun i=>Gc i∨T i) w3):=⟨Gc,rfl,fun i q=>(hTF i q).2.2,rfl,Nat.zero_le _,⟨Nat.zero_le _,by simpa using hm⟩,HFR.out,by rw[List.length_nil,List.take_zero];exact hj.only (Only.of (F:=fun _=>False) hw3) (fun _ _ r=>r)⟩
 have HE:Hid (∀(D:Nat) (W:World) (F1 Gc1:Nat→Prop) (j:Nat),w3.heap.size≤D→(∀i,T i→¬Gc1 i)→j≤k→j≤all.length→((j=k∨most≤(j:Int))∧(j:Int)≤most)→FRows tb p ts bt bw bs w.heap.size bl bm way bg T W→FJ bl bm most (all.take j) Gc1 W→ItT p (ts way) way S (fun b=>b=fb∨b=kb) F1 W→Dis F1 (fun i=>Gc1 i∨T i) W→¬F1 D→¬(Gc1 D∨T D)→Keeps (Un (fun i=>F i∧i<w.heap.size) (fun i=>Gc i∨T i)) (Un F1 (fun i=>Gc1 i∨T i)) w3 W→
   ∃(F2 G2:Nat→Prop) (j:Nat),j≤k∧j≤all.length∧((j=k∨most≤(j:Int))∧(j:Int)≤most)∧TblAt (W.putObj D (.deferred none)) tb p ts F2∧PagerAt (W.putObj D (.deferred none)) p F2 S∧FJ bl bm most (all.take j) G2 (W.putObj D (.deferred none))∧Keeps (Un F Gc) (Un F2 G2) w (W.putObj D (.deferred none))):=fun D W F1 Gc1 j jH hg1 hjk hja hjm hfr hfj hit hdd hn1' hn2' hk=>by
  have ho:=Only.putObj W D (.deferred none)
  have hfr2:=hfr.only ho (fun i q r=>hn2' (.inr (r▸q)))
  have hkk:=HFR.out.keeps hfr (fun i q=>by rw[hTd]at q;exact q) (fun i q=>⟨(hdd.2 i (.inr q)).2,hg1 i q⟩) hk
  refine⟨F1,Gc1,j,hjk,hja,hjm,hfr2.tbl (fun i q=>(hdd.2 i (.inr q)).2),hit.1.only ho (fun i q r=>hn1' (r▸q)),hfj.only ho (fun i q r=>hn2' (.inl (r▸q))),?_⟩
  have k1:Keeps (Un (fun i=>F i∧i<w.heap.size) Gc) (Un F1 Gc1) w W:=(Keeps.of hw3).trans hkk
  have k2:Keeps (Un F Gc) (Un F1 Gc1) w W:=k1.widen (fun i q=>q.elim (fun q=> .inl q.1) .inr)
  exact⟨k2.only.trans ho (fun i q=> .inr (by have:=hw3.size;omega)),k2.new⟩
 have HGET:Hid (∀o,o∈l→getL l o.id=some o):=fun o ho=>X3i (hT.ids 0 (by omega)) ho
 refine V8o (motive:=fun a=>Code.wpIn Fence.wide 3 Tryz.prog _ _ a _) (fun a0 hA0=> ?_)
 refine Z6a rfl (by decide) (gf:=131) (lb:=#[.pointer (some ⟨fb,0,none⟩),.pointer (some ⟨kb,0,none⟩)]) (by rw[hA0];rfl) trivial (enters_of Tryz.func131 (by kernel_rfl) rfl)
  (Y9j (K:=fun b=>b=fb∨b=kb) bg (Ts way) w3 (hT.tr way hw) (Z9j (hd way hw)) (by omega) h34 h35 (.inl rfl) (.inr rfl)) (Ext.refl w3) (fun _=>rfl) (fun i=>F i∧i<w.heap.size) (fun i=>Gc i∨T i) (ItT.abides (p:=p) (i:=way) (Nat.lt_of_lt_of_le (htl way hw) hw3.size))
  HIT.out HDI.out (FI tb p ts bt bw bs w.heap.size bl bm way bg T most all k)
  (fun c pre G W=>c= .ret∧FX tb p ts bt bw bs w.heap.size bl bm way bg T most all k G W)
  FI.abides (fun c s G W W' q q2 q3=>⟨q.1,FX.abides s G W W' q.2 q3⟩) HFI.out
  (fun x=> { tmps:=(((a0.tmps.setIfInBounds 40 (.string x.1)).setIfInBounds 41 (.string x.2)).setIfInBounds 7 (.string x.1)),defers:= []}) ?assign ?body ?done ?stop
 case assign=>
  intro l x W K hK
  subst hA0
  simp only[V5z,V7h,List.setIfInBounds_toArray,List.set_cons_succ,List.set_cons_zero]at hK ⊢
  gi_wp2
  exact hK
 case body=>
  rintro l' pre x W F1 G1 ⟨Gc1,rfl,hg1,hpre,hpk,hpa,hfr,hfj⟩ hit hdd hok
  rw[hf.outs]at hok
  obtain⟨m,hm⟩:∃m,pre.length=m:=⟨_,rfl⟩
  rw[hm]at hpre hpk hpa hfj
  have hxm:all[m]?.map (kvW way)=some x:=by
   have e1:(pre++ [x])[m]? =some x:=by rw[←hm];simp
   obtain⟨r,hr⟩:=hok
   have e2:(all.map (kvW way))[m]? =some x:=by rw[←hr,List.getElem?_append_left (by rw[List.length_append,hm];simp)];exact e1
   rwa [List.getElem?_map]at e2
  have hml:m<all.length:=by
   rcases Nat.lt_or_ge m all.length with q | q
   ·exact q
   ·rw[List.getElem?_eq_none q]at hxm;cases hxm
  obtain⟨o,hoe⟩:∃o,all[m]=o:=⟨_,rfl⟩
  rw[List.getElem?_eq_getElem hml,hoe]at hxm
  obtain rfl:kvW way o=x:=by injection hxm
  have hol:o∈l:=by rw[←hoe];exact hf.mem _ (List.getElem_mem hml)
  have hoc:=hT.ok way hw o hol
  have c5:W.cell? ⟨bs,0,none⟩=some (.string bg):=hfr.rs.cell 0
  have c2:W.cell? ⟨bt,0,none⟩=some (tp tb):=hfr.rt.cell 0
  have cU:=X7p (wayK way o) bg W
  have HFRW:=hD hfr
  have HFJW:=hD hfj
  have HITW:=hD hit
  have HDDW:=hD hdd
  have HTAB:=hD hT
  have HFS:=hD hf
  clear hfr hfj hit hdd hT
  subst hA0
  dsimp only[kvW]
  simp only[List.setIfInBounds_toArray,List.set_cons_succ,List.set_cons_zero]
  cases hu:Z2m (wayK way o) bg with
  | false=>
    rw[hu]at cU
    gi_wp2_with (refine ⟨trivial,?_⟩;gi_at_call 73;refine(CallsIn.inRound l' (callsIn_wide.2 cU)).mono ?_;clear cU;rintro e w5 ⟨rfl,rfl⟩)
    have hmk:m=k:=by
     rcases Nat.lt_or_ge m k with q | q
     ·have:=hf.under m hml q
      rw[hoe,hu]at this;cases this
     ·omega
    exact⟨F1,_,HITW.out,HDDW.out,Keeps.refl,rfl,Gc1,m,rfl,hg1,hpk,hpa.1,⟨.inl hmk,Int.le_of_lt hpa.2⟩,HFRW.out,HFJW.out⟩
  | true=>
    rw[hu]at cU
    have hmk:m<k:=by
     rcases Nat.lt_or_ge m k with q | q
     ·exact q
     ·have e:m=k:=by omega
      subst e
      have:=hf.stop hml
      rw[hoe,hu]at this;cases this
    have hin:=OpIn.of hoc
    have hwl:=Y1l way o
    have cS:Calls Tryz.prog 72 #[.string (wayK way o)] W fun e w'=>∃v,e= .returned (.tuple #[v,.int .i64 0])∧OwnL w' W.heap.size 3 1 encN v (wayL way o)∧Ext W w':=X8b (wayL way o) W (hin.way way) (by omega)
    have HIN:=hD hin
    clear hin
    gi_wp2_with (first
     | (refine ⟨trivial,?_⟩;gi_at_call 73;refine(CallsIn.inRound l' (callsIn_wide.2 cU)).mono ?_;clear cU;rintro e w5 ⟨rfl,rfl⟩)
     | (refine ⟨trivial,?_⟩;gi_at_call 72;refine(CallsIn.inRound l' (callsIn_wide.2 cS)).mono ?_;clear cS;rintro e w6 ⟨v6,rfl,ho6,hx6⟩;obtain⟨sb,c6,q6,rfl,hq6,hb6,hs6,hc6⟩:=X4w ho6;have HX6:=hD hx6;clear ho6 hx6))
    have hz6:=HX6.out.size
    have HFR6:Hid (FRows tb p ts bt bw bs w.heap.size bl bm way bg T w6):=HFRW.out.only (Only.of (F:=fun _=>False) HX6.out) (fun _ _ q=>q)
    have HIT6:=hD (HITW.out.ext HX6.out)
    have hF6:∀i,F1 i→i<W.heap.size:=HDDW.out.1
    have HTT:Hid (TblAt w6 tb p ts F1):=HFR6.out.tbl (fun i q=>(HDDW.out.2 i (.inr q)).2)
    have hid64:In64 o.id:=by have:=HIN.out.id;unfold In64;omega
    have hgl:getL l o.id=some o:=HGET.out o hol
    have cG:Hid (∀W',Ext w6 W'→Calls Tryz.prog 60 #[tp tb,.int .i64 o.id] W' fun e w'=>e= .returned (.tuple #[.agg #[.int .i64 o.id,.int .i64 o.proc,.int .i64 o.object,.int .i64 o.kind,.int .i64 o.method,.int .i64 o.arg,.int .i64 o.second,.bool o.done,.int .i64 o.result,.int .i64 o.invoke,.int .i64 o.ret],.int .i64 0])∧∃F',TblAt w' tb p ts F'∧PagerAt w' p F' S∧Keeps F1 F' W' w'):=fun W' hW=>by
     have h1:=Z9t o.id W' (HTT.out.ext hW) (HIT6.out.1.ext hW) HTAB.out (hd 0 (by omega)) hid64
     rw[hgl]at h1
     exact h1
    have hq0:IntKind.i64.wrap (q6:Int)=q6:=by rw[IntKind.wrap_i64];omega
    have hq1:(q6:Int)<(q6:Int)+1:=by omega
    have hq2:(0:Int)≤(q6:Int):=by omega
    have hq3:((q6:Int)).toNat=q6:=by omega
    have HCS:Hid (∀W',Ext w6 W'→W'.cell? ⟨bt,0,none⟩=some (tp tb)∧W'.cell? ⟨sb,q6,none⟩=some (.int .i64 o.id)):=fun W' hW=>⟨(HFR6.out.rt.ext hW HFR6.out.rt.lt).cell 0,(hW.cell (p:=⟨sb,q6,none⟩) hs6).trans hc6⟩
    have hnbt:¬F1 bt:=(HDDW.out.2 _ (.inr HFRW.out.t3.1)).2
    have hnsb:¬F1 sb:=fun q=>by have:=hF6 _ q;omega
    have hn6:¬F1 w6.heap.size:=fun q=>by have:=hF6 _ q;omega
    have HC7:Hid (∀(F7:Nat→Prop) (w7 W':World),Keeps F1 F7 w6 w7→Ext w7 W'→W'.cell? ⟨bt,0,none⟩=some (tp tb)∧W'.cell? ⟨sb,q6,none⟩=some (.int .i64 o.id)):=fun F7 w7 W' hk hx=>by
     have hr:=hk.only.row HFR6.out.rt hnbt
     have hz:=hk.only.size
     exact⟨(hr.ext hx hr.lt).cell 0,(hx.cell (p:=⟨sb,q6,none⟩) (by show sb<_;omega)).trans ((hk.only.cell hs6 hnsb).trans hc6)⟩
    have HPL:=hD hm
    have htl':(all.take m).length=m:=by rw[List.length_take];omega
    have htk:all.take m++ [o]=all.take (m+1):=by rw[List.take_add_one,List.getElem?_eq_getElem hml,hoe];rfl
    have HTK:Hid (((all.take m).length:Nat)=m∧all.take m++ [o]=all.take (m+1)):=⟨htl',htk⟩
    have HPX:Hid (pre++ [kvW way o]=(all.take (m+1)).map (kvW way)):=by unfold Hid;rw[←htk,List.map_append,←hpre];rfl
    have HJ8:Hid (∀F7 w8,Keeps F1 F7 w6 w8→FJ bl bm most (all.take m) Gc1 w8):=fun F7 w8 hk=>(HFJW.out.only (Only.of (F:=fun _=>False) HX6.out) (fun _ _ q=>q)).only hk.only (fun i q=>(HDDW.out.2 i (.inl q)).2)
    have HROUND:Hid (∀(F7 G9:Nat→Prop) (w8 w9:World) (pre':List OpD),Keeps F1 F7 w6 w8→PagerAt w8 p F7 S→FRows tb p ts bt bw bs w.heap.size bl bm way bg T w8→Keeps Gc1 G9 w8 w9→FJ bl bm most pre' G9 w9→
      ∃F8 G8:Nat→Prop,ItT p (ts way) way S (fun b=>b=fb∨b=kb) F8 w9∧Dis F8 (fun i=>G8 i∨T i) w9∧Keeps (Un F1 (fun i=>Gc1 i∨T i)) (Un F8 (fun i=>G8 i∨T i)) W w9∧(∀i,T i→¬G8 i)∧FRows tb p ts bt bw bs w.heap.size bl bm way bg T w9∧FJ bl bm most pre' G8 w9):=fun F7 G9 w8 w9 pre' hk hp8 hf8 hk9 hj=>X0j hw HX6.out HITW.out HDDW.out hg1 hk hp8 hf8 hk9 hj
    clear hm hpre htl' htk
    refine Y4n ?_
    refine V3q (S:=fun W=>W.cell? ⟨bt,0,none⟩=some (tp tb)∧W.cell? ⟨sb,q6,none⟩=some (.int .i64 o.id)) (by kernel_rfl) (by kernel_rfl) (HCS.out _ (by exact Xt)) (fun hHeld=> ?_)
    refine' tkW 0 ?_
    refine' tkW 1 ?_
    refine' tkW 2 ?_
    refine' tkW 3 ?_
    refine' tkW 4 ?_
    refine' tkW 5 ?_
    refine' tkW 6 ?_
    refine Y5t (rs:= [7,11]) (by kernel_rfl) (by simp) ?_;refine AllReadyW.cons rfl (fun K hK=> ?_) (AllReadyW.cons rfl (fun K hK=> ?_) (AllReadyW.nil))
    ·go_simp
     (with_reducible refine(cG.out _ ?_).mono ?_)
     ·exact Xt
     rintro e w7 ⟨rfl,F7,ht7,hp7,hk7⟩
     have HK7:Hid (Keeps F1 F7 w6 w7):=Keeps.trans (Keeps.of (by exact Xt)) hk7
     have HP7:=hD hp7
     clear ht7 hp7 hk7
     (try dsimp only)
     (try go_simp)
     refine hK.out _ _ (HC7.out _ _ _ HK7.out (Ext.refl _)) (fun hHeld=> ?_)
     clear hK K
     refine ptW ?_
     refine' tkW 8 ?_
     refine' tkW 9 ?_
     refine' tkW 10 ?_
     refine stpW 11 (fun K hK=> ?_);go_simp
     skip
     refine hK.out _ _ (HC7.out _ _ _ HK7.out (by exact Xt)) (fun hHeld=> ?_)
     clear hK K
     refine ptW ?_
     refine stpW 12 (fun K hK=> ?_);go_simp
     generalize hw8:World.alloc _ _=w8
     have HZ:Hid (Keeps F1 F7 w6 w8∧Row1 w8 w7.heap.size 32 o.cells∧PagerAt w8 p F7 S):=by unfold Hid;rw[←hw8];exact⟨HK7.out.ext (Ext.alloc _ _),Row1.made w7 _ o.cells,HP7.out.ext (Ext.alloc _ _)⟩
     clear hw8
     refine hK.out _ _ (HC7.out _ _ _ HZ.out.1 (Ext.refl _)) (fun hHeld=> ?_)
     clear hK K
     refine ptW ?_
     refine' tkW 13 ?_
     refine Y4c (by kernel_rfl) ?_ _
     generalize w7.heap.size=D at *
     dsimp only[V4o]
     obtain⟨o0,o1,o2,o3,o4,o5,o6,o7,o8,o9,o10⟩:=At11.row HZ.out.2.1
     have HFR8:Hid (FRows tb p ts bt bw bs w.heap.size bl bm way bg T w8):=HFR6.out.only HZ.out.1.only (fun i q=>(HDDW.out.2 i (.inr q)).2)
     have y0:w8.cell? ⟨w.heap.size,0,none⟩=some (.func (.func 66) #[] #[.pointer (some ⟨bl,0,none⟩),.pointer (some ⟨bm,0,none⟩)]):=HFR8.out.ry.cell 0
     have cY:=Y5k o w8 (HJ8.out F7 w8 HZ.out.1) (by rw[List.length_take];omega)
     rw[HTK.out.1,HTK.out.2]at cY
     cases hb:decide ((m:Int)+1<most)with
     | true=>
       rw[hb]at cY
       gi_wp2_with (refine ⟨trivial,?_⟩;gi_at_call 66;refine(CallsIn.inRound l' (callsIn_wide.2 cY)).mono ?_;clear cY;rintro e w9 ⟨rfl,G9,hj9,hk9⟩;have HFIN:=hD (HROUND.out F7 G9 w8 w9 _ HZ.out.1 HZ.out.2.2 HFR8.out hk9 hj9);clear hj9 hk9)
       obtain⟨F9,G8,r1,r2,r3,r4,r5,r6⟩:=HFIN.out
       exact⟨F9,_,r1,r2,r3,G8,rfl,r4,by rw[List.length_append,HPL.out,List.length_singleton];exact HPX.out,by rw[List.length_append,HPL.out,List.length_singleton];exact hmk,⟨by rw[List.length_append,HPL.out,List.length_singleton];exact hml,by rw[List.length_append,HPL.out,List.length_singleton];have:=of_decide_eq_true hb;omega⟩,r5,by rw[List.length_append,HPL.out,List.length_singleton];exact r6⟩
     | false=>
       rw[hb]at cY
       gi_wp2_with (refine ⟨trivial,?_⟩;gi_at_call 66;refine(CallsIn.inRound l' (callsIn_wide.2 cY)).mono ?_;clear cY;rintro e w9 ⟨rfl,G9,hj9,hk9⟩;have HFIN:=hD (HROUND.out F7 G9 w8 w9 _ HZ.out.1 HZ.out.2.2 HFR8.out hk9 hj9);clear hj9 hk9)
       obtain⟨F9,G8,r1,r2,r3,r4,r5,r6⟩:=HFIN.out
       exact⟨F9,_,r1,r2,r3,rfl,G8,m+1,rfl,r4,hmk,hml,⟨.inr (by have:=of_decide_eq_false hb;omega),by have:=hpa.2;omega⟩,r5,r6⟩
    ·go_simp
     skip
     refine hK.out _ _ (HCS.out _ (by exact Xt)) (fun hHeld=> ?_)
     clear hK K
     refine ptW ?_
     refine stpW 7 (fun K hK=> ?_);go_simp
     (with_reducible refine(cG.out _ ?_).mono ?_)
     ·exact Xt
     rintro e w7 ⟨rfl,F7,ht7,hp7,hk7⟩
     have HK7:Hid (Keeps F1 F7 w6 w7):=Keeps.trans (Keeps.of (by exact Xt)) hk7
     have HND:Hid (¬F7 w6.heap.size):=hk7.out (by simp) hn6
     have HRD:Hid (Row1 w7 w6.heap.size 32 opZero.cells):=hk7.only.row (Row1.made' (by simp) _ opZero.cells) hn6
     have HP7:=hD hp7
     clear ht7 hp7 hk7
     (try dsimp only)
     (try go_simp)
     refine hK.out _ _ (HC7.out _ _ _ HK7.out (Ext.refl _)) (fun hHeld=> ?_)
     clear hK K
     refine ptW ?_
     refine' tkW 8 ?_
     refine' tkW 9 ?_
     refine' tkW 10 ?_
     obtain⟨a0,a1,a2,a3,a4,a5,a6,a7,a8,a9,a10⟩:=Z1p (show Row1 w7 w6.heap.size 32 [.int .i64 0,.int .i64 0,.int .i64 0,.int .i64 0,.int .i64 0,.int .i64 0,.int .i64 0,.bool false,.int .i64 0,.int .i64 0,.int .i64 0]from HRD.out)
     obtain⟨f0,f1,f2,f3,f4,f5,f6,f7,f8,f9,f10⟩:=Z4f HRD.out
     refine stpW 12 (fun K hK=> ?_);go_simp
     have HO8:=hD (Y0i w7 w6.heap.size (.int .i64 o.id) (.int .i64 o.proc) (.int .i64 o.object) (.int .i64 o.kind) (.int .i64 o.method) (.int .i64 o.arg) (.int .i64 o.second) (.bool o.done) (.int .i64 o.result) (.int .i64 o.invoke) (.int .i64 o.ret))
     have HR8:=hD (Z6m (show Row1 w7 w6.heap.size 32 [.int .i64 0,.int .i64 0,.int .i64 0,.int .i64 0,.int .i64 0,.int .i64 0,.int .i64 0,.bool false,.int .i64 0,.int .i64 0,.int .i64 0]from HRD.out) (.int .i64 o.id) (.int .i64 o.proc) (.int .i64 o.object) (.int .i64 o.kind) (.int .i64 o.method) (.int .i64 o.arg) (.int .i64 o.second) (.bool o.done) (.int .i64 o.result) (.int .i64 o.invoke) (.int .i64 o.ret))
     generalize hw8:World.setCell _ _ _=w8 at HO8 HR8 ⊢
     have HZ:Hid (Keeps F1 F7 w6 w8∧Row1 w8 w6.heap.size 32 o.cells∧PagerAt w8 p F7 S):=⟨⟨HK7.out.only.trans HO8.out (fun i q=> .inr (by omega)),HK7.out.new⟩,HR8.out,HP7.out.only HO8.out (fun i q e=>HND.out (e▸q))⟩
     clear hw8 a0 a1 a2 a3 a4 a5 a6 a7 a8 a9 a10 f0 f1 f2 f3 f4 f5 f6 f7 f8 f9 f10
     refine hK.out _ _ (HC7.out _ _ _ HZ.out.1 (Ext.refl _)) (fun hHeld=> ?_)
     clear hK K
     refine ptW ?_
     refine' tkW 13 ?_
     refine Y4c (by kernel_rfl) ?_ _
     generalize w6.heap.size=D at *
     dsimp only[V4o]
     obtain⟨o0,o1,o2,o3,o4,o5,o6,o7,o8,o9,o10⟩:=At11.row HZ.out.2.1
     have HFR8:Hid (FRows tb p ts bt bw bs w.heap.size bl bm way bg T w8):=HFR6.out.only HZ.out.1.only (fun i q=>(HDDW.out.2 i (.inr q)).2)
     have y0:w8.cell? ⟨w.heap.size,0,none⟩=some (.func (.func 66) #[] #[.pointer (some ⟨bl,0,none⟩),.pointer (some ⟨bm,0,none⟩)]):=HFR8.out.ry.cell 0
     have cY:=Y5k o w8 (HJ8.out F7 w8 HZ.out.1) (by rw[List.length_take];omega)
     rw[HTK.out.1,HTK.out.2]at cY
     cases hb:decide ((m:Int)+1<most)with
     | true=>
       rw[hb]at cY
       gi_wp2_with (refine ⟨trivial,?_⟩;gi_at_call 66;refine(CallsIn.inRound l' (callsIn_wide.2 cY)).mono ?_;clear cY;rintro e w9 ⟨rfl,G9,hj9,hk9⟩;have HFIN:=hD (HROUND.out F7 G9 w8 w9 _ HZ.out.1 HZ.out.2.2 HFR8.out hk9 hj9);clear hj9 hk9)
       obtain⟨F9,G8,r1,r2,r3,r4,r5,r6⟩:=HFIN.out
       exact⟨F9,_,r1,r2,r3,G8,rfl,r4,by rw[List.length_append,HPL.out,List.length_singleton];exact HPX.out,by rw[List.length_append,HPL.out,List.length_singleton];exact hmk,⟨by rw[List.length_append,HPL.out,List.length_singleton];exact hml,by rw[List.length_append,HPL.out,List.length_singleton];have:=of_decide_eq_true hb;omega⟩,r5,by rw[List.length_append,HPL.out,List.length_singleton];exact r6⟩
     | false=>
       rw[hb]at cY
       gi_wp2_with (refine ⟨trivial,?_⟩;gi_at_call 66;refine(CallsIn.inRound l' (callsIn_wide.2 cY)).mono ?_;clear cY;rintro e w9 ⟨rfl,G9,hj9,hk9⟩;have HFIN:=hD (HROUND.out F7 G9 w8 w9 _ HZ.out.1 HZ.out.2.2 HFR8.out hk9 hj9);clear hj9 hk9)
       obtain⟨F9,G8,r1,r2,r3,r4,r5,r6⟩:=HFIN.out
       exact⟨F9,_,r1,r2,r3,rfl,G8,m+1,rfl,r4,hmk,hml,⟨.inr (by have:=of_decide_eq_false hb;omega),by have:=hpa.2;omega⟩,r5,r6⟩
 case done=>
  rintro D xs W F1 G1 jH rfl ⟨Gc1,rfl,hg1,hpre,hpk,hpa,hfr,hfj⟩ hit hdd hn1' hn2' hk hK
  have HFIN:=HE.out D W F1 Gc1 _ jH hg1 hpk hpa.1 ⟨by
   left
   have:=hf.le
   rw[hf.outs,List.length_map]at hpk ⊢
   omega,Int.le_of_lt hpa.2⟩ hfr hfj hit hdd hn1' hn2' hk
  have HK:=hD hK
  have HFN:=hD HFIN
  clear hk hit hdd hK hfr hfj HFIN
  subst hA0
  gi_wp2
  exact⟨by simp,.inl ⟨_,_,rfl,run_takeDeferred HK.out,_,results_none rfl _ _ _,⟨_,rfl⟩,HFN.out⟩⟩
 case stop=>
  rintro D c pre W F1 G1 jH hpre ⟨rfl,Gc1,j,rfl,hg1,hjk,hja,hjm,hfr,hfj⟩ hit hdd hn1' hn2' hk hK
  have HFIN:=HE.out D W F1 Gc1 _ jH hg1 hjk hja hjm hfr hfj hit hdd hn1' hn2' hk
  have HK:=hD hK
  have HFN:=hD HFIN
  clear hk hit hdd hK hfr hfj HFIN
  subst hA0
  gi_wp2
  exact⟨by simp,.inl ⟨_,_,rfl,run_takeDeferred HK.out,_,results_none rfl _ _ _,⟨_,rfl⟩,HFN.out⟩⟩
end
section
open Go.RowKit
theorem Y3n{A:Option Addr}{n c tb p:Nat}{ts:Nat→Nat}{F:Nat→Prop}{S:StoreD}{Ts:Nat→TrD}{l all:List OpD}{k:Nat}(way most:Nat)(fl:List Int)(w:World)
 (ht:TblAt w tb p ts F)(hp:PagerAt w p F S)(hT:Tab S Ts (fun _=>l))(hd:∀i,i<5→depT (Ts i)≤31)(hw:way<5)
 (hs:Sl w 1 (fun x cs=>cs=encN x) (.slice A n c) fl)(hl:∀x∈fl,In64 x)(h4:fl.length≤4)(hf:Finds Ts way (bts (keyL fl)) l all k)(hal:all.length≤100000)(hm:0<most):
  Calls Tryz.prog 20 #[tp tb,.int .i64 (way:Nat),.slice A n c,.int .i64 (most:Nat)] w fun e w'=>
   ∃(A':Option Addr) (c' j:Nat) (F2:Nat→Prop),e= .returned (.slice A' j c')∧OwnL w' 0 32 11 OpD.cells (.slice A' j c') (all.take j)∧j≤k∧j≤all.length∧((j=k∨most≤j)∧j≤most)∧TblAt w' tb p ts F2∧PagerAt w' p F2 S∧Keeps F F2 w w':=by
 have cF:Hid (∀W,Calls Tryz.prog 65 #[tp tb,.int .i64 (way:Nat),.slice A n c] W (V9k (A:=A) (n:=n) (c:=c) (some ⟨tb,0,none⟩) (way:Nat) W)):=fun W=>V5y _ _ W
 obtain⟨W0,hW0⟩:∃W0,(w.alloc (.cells #[.int .i64 (most:Nat)] 3)).alloc (.cells #[.slice none 0 0] 30)=W0:=⟨_,rfl⟩
 have HX0:Hid (Ext w W0):=by unfold Hid;rw[←hW0];exact(Ext.alloc _ _).trans (Ext.alloc _ _)
 have HR0:Hid (Row1 W0 (w.heap.size+1) 30 [.slice none 0 0]):=by unfold Hid;rw[←hW0];exact Row1.made' (by simp) _ _
 have HR9:Hid (Row1 W0 w.heap.size 3 [.int .i64 (most:Nat)]):=by unfold Hid;rw[←hW0];exact(Row1.made w _ _).alloc _
 have hs0:W0.heap.size=w.heap.size+2:=by rw[←hW0];simp
 have HLT:Hid (tb<w.heap.size∧∀j,j<5→ts j<w.heap.size):=⟨ht.row.lt,fun j hj=>(ht.tree j hj).lt⟩
 have cC:Hid (∀(bt bw bf:Nat) (W:World),Ext W0 W→W0.heap.size≤bt→W0.heap.size≤bw→Row1 W bt 26 [tp tb]→Row1 W bw 3 [.int .i64 (way:Nat)]→Row1 W bf 23 [.slice A n c]→
   Calls Tryz.prog 129 #[.func (.func 66) #[] #[.pointer (some ⟨w.heap.size+1,0,none⟩),.pointer (some ⟨w.heap.size,0,none⟩)],.pointer (some ⟨bf,0,none⟩),.pointer (some ⟨bt,0,none⟩),.pointer (some ⟨bw,0,none⟩)] W fun e w'=>
    (∃v,e= .returned v)∧∃(A':Option Addr) (c' j:Nat) (F2:Nat→Prop),Row1 w' (w.heap.size+1) 30 [.slice A' j c']∧OwnL w' 0 32 11 OpD.cells (.slice A' j c') (all.take j)∧j≤k∧j≤all.length∧((j=k∨most≤j)∧j≤most)∧TblAt w' tb p ts F2∧PagerAt w' p F2 S∧Keeps F F2 w w'):=fun bt bw bf W hW hbt hbw h1 h2 h3=>by
  have hx:Ext w W:=HX0.out.trans hW
  have hz:=HX0.out.size
  have htF:TblAt W tb p ts (fun i=>F i∧i<w.heap.size):=TblAt.ext (F:=fun i=>F i∧i<w.heap.size) ⟨ht.row,ht.tree,fun q=>ht.out q.1,fun j hj q=>ht.outs j hj q.1⟩ hx
  have hpF:PagerAt W p (fun i=>F i∧i<w.heap.size) S:=PagerAt.ext (F:=fun i=>F i∧i<w.heap.size) hp.shrink hx
  have hzW:=hW.size
  refine(V1h (bl:=w.heap.size+1) (bm:=w.heap.size) (Gc:=fun i=>i=w.heap.size+1∨i=w.heap.size) (most:=(most:Int)) way fl W htF hpF hT hd hw h1 h2 h3 (fun q=>by have:=q.2;omega) (fun q=>by have:=q.2;omega) (hs.ext hx) hl h4 hf hal (by omega)
   ⟨⟨none,0,OwnL.nil _ _ _ _ _,HR0.out.ext hW HR0.out.lt,fun k q=>by cases q⟩,HR9.out.ext hW HR9.out.lt,.inl rfl,.inr rfl⟩ (fun i q=> ?_)).mono ?_
  ·have l1:=HLT.out.1
   have l2:=HLT.out.2
   refine⟨by omega,fun r=>by have:=r.2;omega,by omega,by omega,by omega,fun j hj e=>by have:=l2 j hj;omega⟩
  ·rintro e w' ⟨hv,F2,G2,j,hjk,hja,hjm,ht2,hp2,hfj,hk2⟩
   obtain⟨A',c',ho,hr,_⟩:=hfj.list
   have hlen:(all.take j).length=j:=by rw[List.length_take];omega
   rw[hlen]at ho hr
   refine⟨hv,A',c',j,F2,hr,ho,hjk,hja,by omega,ht2,hp2,⟨(Only.of hx).trans hk2.only (fun i q=> ?_),fun i q=> ?_⟩⟩
   ·rcases q with q | q | q
    ·exact .inl q.1
    ·exact .inr (by omega)
    ·exact .inr (by omega)
   ·rcases hk2.new i (.inl q)with (r | r | r) | r
    ·exact .inl r.1
    ·exact .inr (by omega)
    ·exact .inr (by omega)
    ·exact .inr (by omega)
 clear ht hp hT hd hs hl hf hs0
 have hnf:=fun(W:World) (ya yb:Array Value)=>X8f 129 ya yb W
 have c9:W0.cell? ⟨w.heap.size,0,none⟩=some (.int .i64 (most:Nat)):=HR9.out.cell 0
 have q1:decide ((most:Int)≤0)=false:=decide_eq_false (by omega)
 have q2:¬(most:Int)≤0:=by omega
 go_enter Tryz.func20,Tryz.ntmps20
 go_upto_region 2 with fail
 clear hW0
 go_wp2_with (first
  | (go_at_call 65;(with_reducible refine(cF.out _).mono ?_);clear cF;rintro e w1 ⟨bt,bw,bf,rfl,hx1,hb1,hb2,hb3,hr1,hr2,hr3⟩;have HX1:=hD hx1;have HB1:=hD hb1;have HB2:=hD hb2;have HR1:=hD hr1;have HR2:=hD hr2;have HR3:=hD hr3;clear hx1 hr1 hr2 hr3 hb1 hb2 hb3)
  | (go_at_call 129;(with_reducible refine(cC.out _ _ _ _ HX1.out HB1.out HB2.out HR1.out HR2.out HR3.out).mono ?_);clear cC;rintro e w2 ⟨⟨v2,rfl⟩,A2,c2,j2,F2,hr0,ho2,hj1,hj2,hj3,ht2,hp2,hk2⟩;have HFIN:Hid (OwnL w2 0 32 11 OpD.cells (.slice A2 j2 c2) (all.take j2)∧j2≤k∧j2≤all.length∧((j2=k∨most≤j2)∧j2≤most)∧TblAt w2 tb p ts F2∧PagerAt w2 p F2 S∧Keeps F F2 w w2):=⟨ho2,hj1,hj2,hj3,ht2,hp2,hk2⟩;have c0:w2.cell? ⟨w.heap.size+1,0,none⟩=some (.slice A2 j2 c2):=hr0.cell 0;clear hr0 ho2 hj1 hj2 hj3 ht2 hp2 hk2))
 go_ret
 exact⟨A2,c2,j2,F2,rfl,HFIN.out⟩
def T1(tb:Nat)(ts:Nat→Nat)(bt:Nat):Nat→Prop:=fun i=>i=tb∨(∃j,j<5∧i=ts j)∨i=bt
section
variable (tb p:Nat) (ts:Nat→Nat) (bt bs by_ fb kb l way:Nat) (begin:ByteArray) (J Jx:List OpD→(Nat→Prop)→World→Prop) (all:List OpD) (k:Nat)
end
section
variable {tb p:Nat} {ts:Nat→Nat} {bt bs by_ fb kb l way:Nat} {begin:ByteArray} {J Jx:List OpD→(Nat→Prop)→World→Prop} {all:List OpD} {k:Nat}
end
theorem V9y{x y:UInt8}(h1:¬y<x)(h2:¬x<y):y=x:=by
 have a:=UInt8.not_lt.1 h1
 have b:=UInt8.not_lt.1 h2
 exact UInt8.le_antisymm b a
theorem Y2r:∀(p a b:List UInt8),p <+: b→¬a<p→¬b<a→p <+: a
 | [],a,_,_,_,_=>List.nil_prefix
 | x::p,[],_,_,h,_=>absurd (List.nil_lt_cons x p) h
 | x::p,y::a,[],h,_,_=>absurd h (by simp)
 | x::p,y::a,z::b,h,h1,h2=>by
   obtain⟨rfl,hp⟩:=List.cons_prefix_cons.1 h
   have e1:¬y<x:=fun q=>h1 (List.cons_lt_cons_iff.2 (.inl q))
   have e2:¬x<y:=fun q=>h2 (List.cons_lt_cons_iff.2 (.inl q))
   obtain rfl:=V9y e1 e2
   exact List.cons_prefix_cons.2 ⟨rfl,Y2r p a b hp (fun q=>h1 (List.cons_lt_cons_iff.2 (.inr ⟨rfl,q⟩))) (fun q=>h2 (List.cons_lt_cons_iff.2 (.inr ⟨rfl,q⟩)))⟩
theorem Y4y:∀(p a:List UInt8),p <+: a→¬a<p
 | [],a,_,h=>absurd h (List.not_lt_nil a)
 | x::p,[],h,_=>absurd h (by simp)
 | x::p,y::a,h,q=>by
   obtain⟨rfl,hp⟩:=List.cons_prefix_cons.1 h
   rcases List.cons_lt_cons_iff.1 q with r | ⟨_,r⟩
   ·exact absurd r (UInt8.lt_irrefl x)
   ·exact Y4y p a hp r
theorem Z8r(a b:List UInt8):Z2m (bts a) (bts b)=true↔b <+: a:=by rw[X4p,List.isPrefixOf_iff_prefix]
theorem X0w(a b:List UInt8):ltB (bts a) (bts b)=true↔a<b:=by rw[Z6u,Z1w,Z1w]
theorem Y6c{a b c:List UInt8}(h1:Z2m (bts c) (bts a)=true)(h2:ltB (bts b) (bts a)=false)(h3:ltB (bts c) (bts b)=false):Z2m (bts b) (bts a)=true:=
 (Z8r _ _).2 (Y2r a b c ((Z8r _ _).1 h1) (fun q=>by rw[(X0w b a).2 q]at h2;cases h2) (fun q=>by rw[(X0w c b).2 q]at h3;cases h3))
theorem X4o{a c:List UInt8}(h1:Z2m (bts c) (bts a)=true):ltB (bts c) (bts a)=false:=by
 cases h:ltB (bts c) (bts a)with
 | false=>rfl
 | true=>exact absurd ((X0w c a).1 h) (Y4y a c ((Z8r _ _).1 h1))
section
variable {S:StoreD} {Ts:Nat→TrD} {l all:List OpD} {way k:Nat} {fr:List UInt8}
theorem Finds.rise(hT:Tab S Ts (fun _=>l))(hw:way<5)(hf:Finds Ts way (bts fr) l all k):all.Pairwise (fun a b=>ltB (wayK way a) (wayK way b)=true):=by
 have h:=(TrS.rise (hT.tr way hw)).filter (fun x=> !ltB x.1 (bts fr))
 have e:(Ts way).list.filter (fun x=> !ltB x.1 (bts fr))=all.map (kvW way):=hf.outs
 rw[e,List.pairwise_map]at h
 exact h
theorem Finds.nodup(hT:Tab S Ts (fun _=>l))(hw:way<5)(hf:Finds Ts way (bts fr) l all k):all.Nodup:=
 (hf.rise hT hw).imp (fun {a b} h e=>by rw[e,Z1g]at h;cases h)
theorem Finds.mem_iff(hT:Tab S Ts (fun _=>l))(hw:way<5)(hf:Finds Ts way (bts fr) l all k)(o:OpD):o∈all.take k↔o∈l∧Z2m (wayK way o) (bts fr)=true:=by
 constructor
 ·intro h
  obtain⟨i,hi,rfl⟩:=List.mem_iff_getElem.1 h
  rw[List.length_take]at hi
  rw[List.getElem_take]
  exact⟨hf.mem _ (List.getElem_mem _),hf.under i (by omega) (by omega)⟩
 ·rintro⟨ho,hu⟩
  have h1:kvW way o∈Z1h (Ts way).list (bts fr):=List.mem_filter.2 ⟨(hT.mem way hw _).2 ⟨o,ho,rfl⟩,by
   rw[show ltB (kvW way o).1 (bts fr)=false from X4o hu];rfl⟩
  rw[hf.outs]at h1
  obtain⟨a,ha,e⟩:=List.mem_map.1 h1
  have hoc:=OpIn.of (hT.ok way hw o ho)
  have hac:=OpIn.of (hT.ok way hw a (hf.mem a ha))
  obtain rfl:a=o:=X1b (hT.ids way hw) (hf.mem a ha) ho (Y1m (hac.way way) (hoc.way way) (congrArg Prod.fst e))
  obtain⟨i,hi,rfl⟩:=List.mem_iff_getElem.1 ha
  rcases Nat.lt_or_ge i k with q | q
  ·exact List.mem_iff_getElem.2 ⟨i,by rw[List.length_take];omega,by rw[List.getElem_take]⟩
  ·exfalso
   have hk:k<all.length:=by omega
   have hs:=hf.stop hk
   have hr:=hf.rise hT hw
   have h2:Z2m (wayK way all[k]) (bts fr)=true:=by
    by_cases e2:k=i
    ·subst e2;exact hu
    ·have h3:=List.pairwise_iff_getElem.1 hr k i hk hi (by omega)
     have h4:kvW way all[k]∈Z1h (Ts way).list (bts fr):=by rw[hf.outs];exact List.mem_map.2 ⟨_,List.getElem_mem _,rfl⟩
     have h5:=(List.mem_filter.1 h4).2
     exact Y6c hu (show ltB (wayK way all[k]) (bts fr)=false by simpa [kvW]using h5) (Z2x h3)
   rw[hs]at h2;cases h2
theorem Finds.perm(hT:Tab S Ts (fun _=>l))(hw:way<5)(hf:Finds Ts way (bts fr) l all k):(all.take k).Perm (l.filter (fun o=>Z2m (wayK way o) (bts fr))):=by
 have hn:l.Nodup:=(hT.ids way hw).imp (fun {a b} h e=>h (by rw[e]))
 rw[List.perm_ext_iff_of_nodup ((hf.nodup hT hw).sublist (List.take_sublist _ _)) (hn.filter _)]
 intro o
 rw[hf.mem_iff hT hw,List.mem_filter]
end
theorem V4z:∀(a b:List Int),a <+: b→keyL a <+: keyL b:=fun a b ⟨r,h⟩=>⟨keyL r,by rw[←h];unfold keyL;rw[List.flatMap_append]⟩
theorem X7o{way:Nat}{o:OpD}{fl:List Int}(h:fl <+: wayL way o):Z2m (wayK way o) (bts (keyL fl))=true:=(Z8r _ _).2 (V4z _ _ h)
def opAa:OpD:=⟨1,0,3,6,13,0,0,false,0,9,0⟩
def opAb:OpD:=⟨2,0,3,6,13,0,0,false,0,4,0⟩
theorem V8j:Z2c opAa=0:=by decide
theorem V8i:Z2c opAb=0:=by decide
theorem X2j:∀(l r:List KV),Z7v l→Z7v r→(∀x,x∈l↔x∈r)→l=r
 | [],[],_,_,_=>rfl
 | [],y::r,_,_,h=>absurd ((h y).2 List.mem_cons_self) (by simp)
 | x::l,[],_,_,h=>absurd ((h x).1 List.mem_cons_self) (by simp)
 | x::l,y::r,hl,hr,h=>by
   have h1:=List.pairwise_cons.1 hl
   have h2:=List.pairwise_cons.1 hr
   have e:x=y:=by
    rcases List.mem_cons.1 ((h x).1 List.mem_cons_self)with e | hx
    ·exact e
    ·rcases List.mem_cons.1 ((h y).2 List.mem_cons_self)with e | hy
     ·exact e.symm
     ·have a:=h1.1 y hy
      have b:=h2.1 x hx
      rw[Z2x a]at b
      cases b
   subst e
   rw[X2j l r h1.2 h2.2 (fun z=>⟨fun hz=>by
    rcases List.mem_cons.1 ((h z).1 (List.mem_cons_of_mem _ hz))with e | q
    ·have a:=h1.1 z hz;subst e;rw[Z1g]at a;cases a
    ·exact q,fun hz=>by
    rcases List.mem_cons.1 ((h z).2 (List.mem_cons_of_mem _ hz))with e | q
    ·have a:=h2.1 z hz;subst e;rw[Z1g]at a;cases a
    ·exact q⟩)]
theorem U0c:ltB (wayK 1 opAb) (wayK 1 opAa)=true:=by kernel_rfl
theorem V9g:ltB (wayK 1 opAa) (bts (keyL [3]))=false:=by kernel_rfl
theorem V9a:ltB (wayK 1 opAb) (bts (keyL [3]))=false:=by kernel_rfl
theorem V9f:Z2m (wayK 1 opAa) (bts (keyL [3]))=true:=by kernel_rfl
theorem V8z:Z2m (wayK 1 opAb) (bts (keyL [3]))=true:=by kernel_rfl
theorem X1o{S:StoreD}{Ts:Nat→TrD}(hT:Tab S Ts (fun _=> [opAb,opAa])):Finds Ts 1 (bts (keyL [3])) [opAb,opAa] [opAb,opAa] 2:=by
 have hl:(Ts 1).list= [kvW 1 opAb,kvW 1 opAa]:=by
  refine X2j _ _ (hT.tr 1 (by omega)).rise (List.pairwise_cons.2 ⟨fun x hx=> ?_,List.pairwise_cons.2 ⟨fun x hx=>(by cases hx),List.Pairwise.nil⟩⟩) (fun x=> ?_)
  ·rw[List.mem_singleton]at hx;subst hx;exact U0c
  ·rw[hT.mem 1 (by omega)]
   constructor
   ·rintro⟨o,ho,rfl⟩
    rcases List.mem_cons.1 ho with rfl | ho
    ·exact List.mem_cons_self
    ·rw[List.mem_singleton]at ho;subst ho;exact List.mem_cons_of_mem _ List.mem_cons_self
   ·intro hx
    rcases List.mem_cons.1 hx with rfl | hx
    ·exact⟨opAb,List.mem_cons_self,rfl⟩
    ·rw[List.mem_singleton]at hx;subst hx;exact⟨opAa,List.mem_cons_of_mem _ List.mem_cons_self,rfl⟩
 refine⟨?_,fun o ho=>ho,fun i h hi=> ?_,fun h=>absurd h (by simp),by simp⟩
 ·rw[hl]
  refine Z2j (fun x hx=> ?_)
  rcases List.mem_cons.1 hx with rfl | hx
  ·show(!ltB (wayK 1 opAb) _)=true;rw[V9a];rfl
  ·rw[List.mem_singleton]at hx;subst hx;show(!ltB (wayK 1 opAa) _)=true;rw[V9g];rfl
 ·match i,hi with
  | 0,_=>exact V8z
  | 1,_=>exact V9f
theorem X7x{n room:Nat}(hf:FullV (Z1j n room)):Tab (Z1j n room) (fun _=> .no) (fun _=> []):=
 ⟨X2p hf,fun i _=>X2o n room i,fun _ _ _ _ _ b hb=>absurd hb (by simp[TrD.pages]),fun _ _ o ho=>absurd ho (by simp),fun _ _=>List.Pairwise.nil,fun _ _ x=>⟨fun h=>absurd h (by simp[TrD.list]),fun⟨o,ho,_⟩=>absurd ho (by simp)⟩⟩
theorem Y9b{Ts:Nat→TrD}{m:Nat}:∀k,(∀i,i<k→depT (Ts i)≤m)→Z4n Ts k≤k*(m+1)
 | 0,_=>by simp[Z4n]
 | k+1,h=>by
   have h1:=Y9b k (fun i hi=>h i (by omega))
   have h2:=h k (by omega)
   have h3:=Y1u (Ts k)
   show Z4n Ts k+(Ts k).need≤_
   rw[Nat.add_mul]
   omega
structure PutDone (tb p:Nat) (ts:Nat→Nat) (o:OpD) (l:List OpD) (m:Nat) (S:StoreD) (F:Nat→Prop) (w w':World) (S':StoreD) (Ts':Nat→TrD) (F':Nat→Prop):Prop where
 at_:TblAt w' tb p ts F'
 pag:PagerAt w' p F' S'
 keep:Keeps F F' w w'
 tab:Tab S' Ts' (fun _=>o::l)
 dep:∀i,i<5→depT (Ts' i)≤m+1
 room:Z0z S≤Z0z S'+5*(m+1)
theorem Y8n{tb p:Nat}{ts:Nat→Nat}{F:Nat→Prop}{S:StoreD}{Ts:Nat→TrD}{l:List OpD}(o:OpD)(m:Nat)(w:World)(ht:TblAt w tb p ts F)(hp:PagerAt w p F S)(hT:Tab S Ts (fun _=>l))(ho:Z2c o=0)
 (hno:∀x∈l,x.id≠o.id)(hd:∀i,i<5→depT (Ts i)≤m)(hm:m≤31)(hr:5*(m+1)≤Z0z S):
  Calls Tryz.prog 55 #[tp tb,o.val] w fun e w'=>e= .returned (.int .i64 0)∧∃S' Ts' F',PutDone tb p ts o l m S F w w' S' Ts' F':=by
 have hin:=OpIn.of ho
 have hid:In64 o.id:=by have:=hin.id;unfold In64;omega
 have hg:getL l o.id=none:=by
  unfold getL
  rw[List.find?_eq_none]
  intro x hx
  have:=hno x hx
  simpa using this
 have hn:=Y9b 5 hd
 refine(X7s o w ht hp ho (fun W F1 h1 h2=>(Y2e o.id W h1 h2 hT (by have:=hd 0 (by omega);omega) hid hg).mono ?_) hT (fun i _=>hno) (fun i hi=>by have:=hd i hi;omega) (by omega)).mono ?_
 ·rintro e w' ⟨rfl,F',h3,h4,h5⟩
  exact⟨6,.inr rfl,rfl,F',h3,h4,h5⟩
 ·rintro e w' ⟨rfl,S',Ts',F',hk⟩
  refine⟨rfl,S',Ts',F',hk.at_,hk.pag,hk.keep,hk.tab.congr (fun i _=>rfl) (fun i hi=>by rw[if_pos hi]),fun i hi=> ?_,by have:=hk.room;omega⟩
  obtain⟨Sa,Sb,_,_,hb⟩:=hk.done i hi
  have:=X8t hb
  have:=hd i hi
  omega
end
end Go.Proofs.YtmiolpfanlpfnaaGreat
