/- table.Find's closure, with what a statement keeps as its yield: the walk. Conditions: a table's trees. -/
import Derived.Test.YtohaldfnmgcofaaGreatT30
set_option maxRecDepth 100000
set_option maxHeartbeats 4000000
set_option linter.unusedSimpArgs false
set_option linter.unusedVariables false
namespace Go.Proofs.YtohaldfnmgcofaaGreat
open Go.RowKit
attribute [local go_sem] Oper.semAt_some
theorem FJ.shrink{bl bm:Nat}{most:Int}{pre:List OpD}{G:Nat->Prop}{W:World}(h:FJ bl bm most pre G W):FJ bl bm most pre (fun i=>G i/\i<W.heap.size) W:=by obtain⟨A,c,h1,h2,h3⟩:=h.list;exact⟨⟨A,c,h1,h2,fun k hk=>⟨h3 k hk,(h1.lt k hk).2⟩⟩,h.most,⟨h.gl,h2.lt⟩,⟨h.gm,h.most.lt⟩⟩
theorem X2b{tb p:Nat}{ts:Nat->Nat}{bt bw bs by_ bl bm way:Nat}{bg:ByteArray}{T K F1 F7 Gc1 G9:Nat->Prop}{S:StoreD}{most:Int}{pre:List OpD}{W w6 w8 w9:World}(hw:way<5)(hx:Ext W w6)(hit:ItT p (ts way) way S K F1 W)(hdd:Dis F1 (fun i=>Gc1 i\/T i) W)(hg1:∀i,T i->¬Gc1 i)
 (hk:Keeps F1 F7 w6 w8)(hp8:PagerAt w8 p F7 S)(hf8:FRows tb p ts bt bw bs by_ bl bm way bg T w8)(hk9:Keeps Gc1 G9 w8 w9)(hj:FJ bl bm most pre G9 w9):
  ∃F8 G8:Nat->Prop,ItT p (ts way) way S K F8 w9/\Dis F8 (fun i=>G8 i\/T i) w9/\Keeps (Un F1 (fun i=>Gc1 i\/T i)) (Un F8 (fun i=>G8 i\/T i)) W w9/\(∀i,T i->¬G8 i)/\FRows tb p ts bt bw bs by_ bl bm way bg T w9/\FJ bl bm most pre G8 w9:=by
 have z1:=hx.size;have z2:=hk.only.size;have z3:=hk9.only.size;have hGF:∀i,Gc1 i->¬F7 i:=fun i q=>hk.out (by have:=(hdd.2 i (.inl q)).1;omega) (hdd.2 i (.inl q)).2;have hTF:∀i,T i->i<W.heap.size/\¬F7 i:=fun i q=>⟨(hdd.2 i (.inr q)).1,hk.out (by have:=(hdd.2 i (.inr q)).1;omega) (hdd.2 i (.inr q)).2⟩;refine⟨fun i=>F7 i/\i<w8.heap.size,fun i=>G9 i/\i<w9.heap.size,⟨hp8.shrink.only hk9.only (fun i q r=>hGF i r q.1),(hf8.only hk9.only hg1).tree way hw,fun q=>(hTF _ (hf8.t2 way hw)).2 q.1,fun b q=> ?_⟩,⟨fun i q=>by omega,fun i q=> ?_⟩,⟨?_,fun i q=> ?_⟩,fun i q r=>hk9.out (by have:=(hTF i q).1;omega) (hg1 i q) r.1,hf8.only hk9.only hg1,hj.shrink⟩
 ·have:=hit.2.2.2 b q;exact⟨fun r=>hk.out (by omega) this.1 r.1,by omega⟩
 ·rcases q with q | q
  ·refine⟨q.2,fun r=> ?_⟩;rcases hk9.new i q.1 with s | s
   ·exact hGF i s r.1
   ·omega
  ·exact⟨by have:=(hTF i q).1;omega,fun r=>(hTF i q).2 r.1⟩
 ·exact((Only.of hx).trans hk.only (fun i q=> .inl (.inl q))).trans hk9.only (fun i q=> .inl (.inr (.inl q)))
 ·rcases q with q | q | q
  ·rcases hk.new i q.1 with s | s
   ·exact .inl (.inl s)
   ·exact .inr (by omega)
  ·rcases hk9.new i q.1 with s | s
   ·exact .inl (.inr (.inl s))
   ·exact .inr (by omega)
  ·exact .inl (.inr (.inr q))
theorem V3t{A:Option Addr}{n c bt bw bf bl bm tb p:Nat}{ts:Nat->Nat}{F Gc:Nat->Prop}{S:StoreD}{Ts:Nat->TrD}{l all:List OpD}{k:Nat}{most:Int}(way:Nat)(fl:List Int)(w:World)
 (ht:TblAt w tb p ts F)(hp:PagerAt w p F S)(hT:Tab S Ts (fun _=>l))(hd:∀i,i<5->depT (Ts i)<=31)(hw:way<5)
 (h1:Row1 w bt 66 [tp tb])(h2:Row1 w bw 3 [.int .i64 (way:Nat)])(h3:Row1 w bf 80 [.slice A n c])(n1:¬F bt)(n2:¬F bw)
 (hs:Sl w 1 (fun x cs=>cs=encN x) (.slice A n c) fl)(hl:∀x∈fl,In64 x)(h4:fl.length<=4)(hf:Finds Ts way (bts (keyL fl)) l all k)(hal:all.length<=100000)(hm:0<most)
 (hj:FJ bl bm most [] Gc w)(hG:∀i,Gc i->i<w.heap.size/\¬F i/\i≠tb/\i≠bt/\i≠bw/\∀j,j<5->i≠ts j):
  cQ 178 #[.func (.func 134) #[] #[tp bl,tp bm],tp bf,tp bt,tp bw] w fun e w'=>
   (∃v,e= .returned v)/\∃(F2 G2:Nat->Prop) (j:Nat),j<=k/\j<=all.length/\((j=k\/most<=(j:Int))/\(j:Int)<=most)/\TblAt w' tb p ts F2/\PagerAt w' p F2 S/\FJ bl bm most (all.take j) G2 w'/\Keeps (Un F Gc) (Un F2 G2) w w':=by
 have hof:OfR fl= .tuple #[.string (bts (keyL fl)),.int .i64 0]:=by unfold OfR;rw[if_neg (by omega)]
 have hn4:n<=4:=by have:=hs.at.1;omega
 have cO:Hid (∀W,Ext w W->cQ 44 #[.slice A n c] W fun e w'=>e= .returned (.tuple #[.string (bts (keyL fl)),.int .i64 0])/\Ext W w'):=fun W hW=>by rw[<-hof];exact V9p fl W (hs.ext hW) hl (by omega)
 have cM:Hid (∀W,Ext w W->cQ 85 #[tp tb] W fun e w'=>e= .returned (.bool true)/\W=w'):=fun W hW=>Z2v W (ht.ext hW).row;have HC:Hid (∀W,Ext w W->W.cell? ⟨bt,0,none⟩=some (tp tb)/\W.cell? ⟨bw,0,none⟩=some (.int .i64 (way:Nat))/\W.cell? ⟨bf,0,none⟩=some (.slice A n c)):=fun W hW=>⟨(h1.ext hW h1.lt).cell 0,(h2.ext hW h2.lt).cell 0,(h3.ext hW h3.lt).cell 0⟩;obtain⟨bg,hbg⟩:∃bg,bts (keyL fl)=bg:=⟨_,rfl⟩;rw[hbg]at cO hf;clear hof hbg hs hl h4;refine callsIn_wide (n:=3).1 ?_;refine callsIn_of_wp_marks Tryz.func178 rfl trivial ?_ rfl;simp only[Tryz.ntmps178,List.size_toArray,List.length_cons,List.length_nil,Nat.reduceAdd,Nat.reduceSub,Array.replicate_succ,Array.replicate_zero,List.push_toArray,List.append_toArray,List.nil_append,List.cons_append];obtain⟨W0,hW0⟩:∃W0,w.alloc (.cells #[.func (.func 134) #[] #[tp bl,tp bm]] 227)=W0:=⟨_,rfl⟩;have HX0:Hid (Ext w W0):=by unfold Hid;rw[<-hW0];exact Ext.alloc _ _
 have HY0:Hid (Row1 W0 w.heap.size 227 [.func (.func 134) #[] #[tp bl,tp bm]]):=by unfold Hid;rw[<-hW0];exact Row1.made w _ _
 obtain⟨d1,d2,d3⟩:=HC.out _ HX0.out;have q1:decide ((way:Int)<0)=false:=aM;have q2:decide ((5:Int)<=(way:Int))=false:=aM;gi_wp2_with (first
  | (refine ⟨trivial,?_⟩;gi_at_call 44;refine(callsIn_wide.2 (cO.out _ HX0.out)).mono ?_;clear cO;rintro e w1 ⟨rfl,hb1⟩;have HB1:Hid (Ext w w1):=HX0.out.trans hb1;have HX1:=hD hb1;clear hb1;obtain⟨e1,e2,e3⟩:=HC.out _ (HB1.out.trans (Ext.alloc _ (.cells #[.string bg] 9))))
  | (refine ⟨trivial,?_⟩;gi_at_call 85;refine(callsIn_wide.2 (cM.out _ (HB1.out.trans (Ext.alloc _ _)))).mono ?_;clear cM;rintro e w2 ⟨rfl,rfl⟩))
 have hx2:Ext w (w1.alloc (.cells #[.string bg] 9)):=HB1.out.trans (Ext.alloc _ _);have HBS:Hid (Row1 (w1.alloc (.cells #[.string bg] 9)) w1.heap.size 9 [.string bg]):=Row1.made w1 _ _;have HYY:Hid (Row1 (w1.alloc (.cells #[.string bg] 9)) w.heap.size 227 [.func (.func 134) #[] #[tp bl,tp bm]]):=Row1.alloc (HY0.out.ext HX1.out HY0.out.lt) _;have hzb:w.heap.size<w1.heap.size:=aE HY0.out.lt HX1.out.size;have HTC:Hid (w.cell? ⟨tb,way,none⟩=some (tp (ts way))):=by unfold Hid;rw[ht.row.cell way,Y3j _ _ _ hw,if_pos hw]
 have htbl:=ht.row.lt;generalize hW2:w1.alloc _=W2 at *;generalize w1.heap.size=bs at *;have HX2:=hD hx2;have HCC:Hid (∀W,Ext W2 W->W.cell? ⟨bt,0,none⟩=some (tp tb)/\W.cell? ⟨bw,0,none⟩=some (.int .i64 (way:Nat))/\W.cell? ⟨bs,0,none⟩=some (.string bg)/\W.cell? ⟨tb,way,none⟩=some (tp (ts way))):=fun W hW=>
  ⟨(HC.out _ (HX2.out.trans hW)).1,(HC.out _ (HX2.out.trans hW)).2.1,(HBS.out.ext hW HBS.out.lt).cell 0,((HX2.out.trans hW).cell (p:=⟨tb,way,none⟩) htbl).trans HTC.out⟩
 have cF:Hid (∀W,cQ 45 #[.pointer (some ⟨ts way,0,none⟩),.string bg] W (X3m (ts way) bg W)):=fun W=>X5j (ts way) bg W;have hw0:(0:Int)<=(way:Int):=by omega
 have hw5:(way:Int)<5:=by omega
 clear hW2 hx2 e1 e2 e3 hW0 d1 d2 d3;refine Y0s (wpIn_wide.2 ?_);refine wp_region_held_drew (S:=fun W=>W.cell? ⟨bt,0,none⟩=some (tp tb)/\W.cell? ⟨bw,0,none⟩=some (.int .i64 (way:Nat))/\W.cell? ⟨bs,0,none⟩=some (.string bg)/\W.cell? ⟨tb,way,none⟩=some (tp (ts way))) (by kernel_rfl) (HCC.out _ (by exact Xt)) (fun hHeld=> ?_);refine' tk 0 ?_;refine' tk 1 ?_;refine' tk 2 ?_;refine' tk 3 ?_;refine' tk 4 ?_;refine' tk 5 ?_;refine' tk 6 ?_;refine stp 7 (fun K hK=> ?_);go_simp
 (with_reducible refine(cF.out _).mono ?_)
 rintro e w3 ⟨fb,kb,rfl,h31,h32,h33,h34,h35⟩;have HX3:Hid (Ext W2 w3):=Ext.trans (by exact Xt) h31
 (try dsimp only)
 (try go_simp)
 refine hK.out _ _ (HCC.out _ HX3.out) (fun hHeld=> ?_);clear hK K;refine pt ?_;refine wpAnyH_done (by kernel_rfl) ?_ _;dsimp only[X2n];gi_wp2;have hw3:Ext w w3:=HX2.out.trans HX3.out;have hz3:=HX3.out.size;have hzw:=HX2.out.size;have hbs:=HBS.out.lt;have hyy:=HYY.out.lt;have hbt:=h1.lt;have hbw:=h2.lt;have hfb:W2.heap.size<=fb:=h32;have hkb:W2.heap.size<=kb:=h33;have hfl:=h34.lt;have hkl:=h35.lt;have hsz:W2.heap.size<=w3.heap.size:=hz3;have htl:∀j,j<5->ts j<w.heap.size:=fun j hj=>(ht.tree j hj).lt;obtain⟨T,hTd⟩:∃T:Nat->Prop,T=fun i=>i=tb\/(∃j,j<5/\i=ts j)\/i=bt\/i=bw\/i=bs\/i=w.heap.size:=⟨_,rfl⟩;have hTF:∀i,T i->i<w3.heap.size/\¬(F i/\i<w.heap.size)/\¬Gc i:=fun i q=>by
  rw[hTd]at q;rcases q with rfl | ⟨j,hj5,rfl⟩ | rfl | rfl | rfl | rfl
  ·exact⟨by omega,fun r=>ht.out r.1,fun r=>(hG _ r).2.2.1 rfl⟩
  ·exact⟨by have:=htl j hj5;omega,fun r=>ht.outs j hj5 r.1,fun r=>(hG _ r).2.2.2.2.2 j hj5 rfl⟩
  ·exact⟨by omega,fun r=>n1 r.1,fun r=>(hG _ r).2.2.2.1 rfl⟩
  ·exact⟨by omega,fun r=>n2 r.1,fun r=>(hG _ r).2.2.2.2.1 rfl⟩
  ·exact⟨by omega,fun r=>by omega,fun r=>by have:=(hG _ r).1;omega⟩
  ·exact⟨by omega,fun r=>by omega,fun r=>by have:=(hG _ r).1;omega⟩
 have HFR:Hid (FRows tb p ts bt bw bs w.heap.size bl bm way bg T w3):=⟨ht.row.ext hw3 ht.row.lt,fun j hj5=>(ht.tree j hj5).ext hw3 (ht.tree j hj5).lt,h1.ext hw3 h1.lt,h2.ext hw3 h2.lt,HBS.out.ext HX3.out hbs,HYY.out.ext HX3.out hyy,by rw[hTd];exact .inl rfl,fun j hj5=>by rw[hTd];exact .inr (.inl ⟨j,hj5,rfl⟩),by rw[hTd];exact⟨.inr (.inr (.inl rfl)),.inr (.inr (.inr (.inl rfl))),.inr (.inr (.inr (.inr (.inl rfl)))),.inr (.inr (.inr (.inr (.inr rfl))))⟩⟩;have HIT:Hid (ItT p (ts way) way S (fun b=>b=fb\/b=kb) (fun i=>F i/\i<w.heap.size) w3):=⟨PagerAt.ext (F:=fun i=>F i/\i<w.heap.size) hp.shrink hw3,(ht.tree way hw).ext hw3 (ht.tree way hw).lt,fun q=>ht.outs way hw q.1,fun b q=>by rcases q with rfl | rfl<;>exact⟨fun r=>by omega,by omega⟩⟩;have HDI:Hid (Dis (fun i=>F i/\i<w.heap.size) (fun i=>Gc i\/T i) w3):=⟨fun i q=>by omega,fun i q=>by
  rcases q with q | q
  ·exact⟨by have:=(hG i q).1;omega,fun r=>(hG i q).2.1 r.1⟩
  ·exact⟨(hTF i q).1,(hTF i q).2.1⟩⟩
 have HFI:Hid (FI tb p ts bt bw bs w.heap.size bl bm way bg T most all k [] (fun i=>Gc i\/T i) w3):=⟨Gc,rfl,fun i q=>(hTF i q).2.2,rfl,Nat.zero_le _,⟨Nat.zero_le _,by simpa using hm⟩,HFR.out,by rw[List.length_nil,List.take_zero];exact hj.only (Only.of (F:=fun _=>False) hw3) (fun _ _ r=>r)⟩;have HE:Hid (∀(D:Nat) (W:World) (F1 Gc1:Nat->Prop) (j:Nat),w3.heap.size<=D->(∀i,T i->¬Gc1 i)->j<=k->j<=all.length->((j=k\/most<=(j:Int))/\(j:Int)<=most)->FRows tb p ts bt bw bs w.heap.size bl bm way bg T W->FJ bl bm most (all.take j) Gc1 W->ItT p (ts way) way S (fun b=>b=fb\/b=kb) F1 W->Dis F1 (fun i=>Gc1 i\/T i) W->¬F1 D->¬(Gc1 D\/T D)->Keeps (Un (fun i=>F i/\i<w.heap.size) (fun i=>Gc i\/T i)) (Un F1 (fun i=>Gc1 i\/T i)) w3 W->
   ∃(F2 G2:Nat->Prop) (j:Nat),j<=k/\j<=all.length/\((j=k\/most<=(j:Int))/\(j:Int)<=most)/\TblAt (W.putObj D (.deferred none)) tb p ts F2/\PagerAt (W.putObj D (.deferred none)) p F2 S/\FJ bl bm most (all.take j) G2 (W.putObj D (.deferred none))/\Keeps (Un F Gc) (Un F2 G2) w (W.putObj D (.deferred none))):=fun D W F1 Gc1 j jH hg1 hjk hja hjm hfr hfj hit hdd hn1' hn2' hk=>by
  have ho:=Only.putObj W D (.deferred none);have hfr2:=hfr.only ho (fun i q r=>hn2' (.inr (r▸q)));have hkk:=HFR.out.keeps hfr (fun i q=>by rw[hTd]at q;exact q) (fun i q=>⟨(hdd.2 i (.inr q)).2,hg1 i q⟩) hk;refine⟨F1,Gc1,j,hjk,hja,hjm,hfr2.tbl (fun i q=>(hdd.2 i (.inr q)).2),hit.1.only ho (fun i q r=>hn1' (r▸q)),hfj.only ho (fun i q r=>hn2' (.inl (r▸q))),?_⟩;have k1:Keeps (Un (fun i=>F i/\i<w.heap.size) Gc) (Un F1 Gc1) w W:=(Keeps.of hw3).trans hkk;have k2:Keeps (Un F Gc) (Un F1 Gc1) w W:=k1.widen (fun i q=>q.elim (fun q=> .inl q.1) .inr);exact⟨k2.only.trans ho (fun i q=> .inr (by have:=hw3.size;omega)),k2.new⟩
 have HGET:Hid (∀o,o∈l->getL l o.id=some o):=fun o ho=>X5i (hT.ids 0 (by omega)) ho;refine Y4q (motive:=fun a=>Code.wpIn Fence.wide 3 Tryz.prog _ _ a _) (fun a0 hA0=> ?_);refine Z2q rfl (by decide) (gf:=106) (lb:=#[tp fb,tp kb]) (by rw[hA0];rfl) trivial (enters_of Tryz.func106 (by kernel_rfl) rfl)
  (Y0i (K:=fun b=>b=fb\/b=kb) bg (Ts way) w3 (hT.tr way hw) (Z4a (hd way hw)) (by omega) h34 h35 (.inl rfl) (.inr rfl)) (Ext.refl w3) (fun _=>rfl) (fun i=>F i/\i<w.heap.size) (fun i=>Gc i\/T i) (ItT.abides (p:=p) (i:=way) (aE (htl way hw) hw3.size))
  HIT.out HDI.out (FI tb p ts bt bw bs w.heap.size bl bm way bg T most all k)
  (fun c pre G W=>c= .ret/\FX tb p ts bt bw bs w.heap.size bl bm way bg T most all k G W)
  FI.abides (fun c s G W W' q q2 q3=>⟨q.1,FX.abides s G W W' q.2 q3⟩) HFI.out
  (fun x=> { tmps:=(((a0.tmps.setIfInBounds 40 (.string x.1)).setIfInBounds 41 (.string x.2)).setIfInBounds 7 (.string x.1)),defers:= []}) ?assign ?body ?done ?stop
 case assign=>
  intro l x W K hK;subst hA0;simp only[X8i,X1n,List.setIfInBounds_toArray,List.set_cons_succ,List.set_cons_zero]at hK ⊢;gi_wp2;exact hK
 case body=>
  rintro l' pre x W F1 G1 ⟨Gc1,rfl,hg1,hpre,hpk,hpa,hfr,hfj⟩ hit hdd hok;rw[hf.outs]at hok;obtain⟨m,hm⟩:∃m,pre.length=m:=⟨_,rfl⟩;rw[hm]at hpre hpk hpa hfj;have hxm:all[m]?.map (kvW way)=some x:=by
   have e1:(pre++ [x])[m]? =some x:=by rw[<-hm];simp
   obtain⟨r,hr⟩:=hok;have e2:(all.map (kvW way))[m]? =some x:=by rw[<-hr,aL (by rw[aA,hm];simp)];exact e1
   rwa [List.getElem?_map]at e2
  have hml:m<all.length:=by
   rcases Nat.lt_or_ge m all.length with q | q
   ·exact q
   ·rw[List.getElem?_eq_none q]at hxm;cases hxm
  obtain⟨o,hoe⟩:∃o,all[m]=o:=⟨_,rfl⟩;rw[aB hml,hoe]at hxm;obtain rfl:kvW way o=x:=by injection hxm
  have hol:o∈l:=by rw[<-hoe];exact hf.mem _ (List.getElem_mem hml)
  have hoc:=hT.ok way hw o hol;have c5:W.cell? ⟨bs,0,none⟩=some (.string bg):=hfr.rs.cell 0;have c2:W.cell? ⟨bt,0,none⟩=some (tp tb):=hfr.rt.cell 0;have cU:=X9p (wayK way o) bg W;have HFRW:=hD hfr;have HFJW:=hD hfj;have HITW:=hD hit;have HDDW:=hD hdd;have HTAB:=hD hT;have HFS:=hD hf;clear hfr hfj hit hdd hT;subst hA0;dsimp only[kvW];simp only[List.setIfInBounds_toArray,List.set_cons_succ,List.set_cons_zero];cases hu:Z3b (wayK way o) bg with
  | false=>
    rw[hu]at cU;gi_wp2_with (refine ⟨trivial,?_⟩;gi_at_call 46;refine(CallsIn.inRound l' (callsIn_wide.2 cU)).mono ?_;clear cU;rintro e w5 ⟨rfl,rfl⟩);have hmk:m=k:=by
     rcases Nat.lt_or_ge m k with q | q
     ·have:=hf.under m hml q;rw[hoe,hu]at this;cases this
     ·omega
    exact⟨F1,_,HITW.out,HDDW.out,Keeps.refl,rfl,Gc1,m,rfl,hg1,hpk,hpa.1,⟨.inl hmk,Int.le_of_lt hpa.2⟩,HFRW.out,HFJW.out⟩
  | true=>
    rw[hu]at cU;have hmk:m<k:=by
     rcases Nat.lt_or_ge m k with q | q
     ·exact q
     ·have e:m=k:=by omega
      subst e;have:=hf.stop hml;rw[hoe,hu]at this;cases this
    have hin:=OpIn.of hoc;have hwl:=Z3w way o;have cS:cQ 54 #[.string (wayK way o)] W fun e w'=>∃v,e= .returned (.tuple #[v,.int .i64 0])/\OwnL w' W.heap.size 3 1 encN v (wayL way o)/\Ext W w':=V0d (wayL way o) W (hin.way way) (by omega);have HIN:=hD hin;clear hin;gi_wp2_with (first
     | (refine ⟨trivial,?_⟩;gi_at_call 46;refine(CallsIn.inRound l' (callsIn_wide.2 cU)).mono ?_;clear cU;rintro e w5 ⟨rfl,rfl⟩)
     | (refine ⟨trivial,?_⟩;gi_at_call 54;refine(CallsIn.inRound l' (callsIn_wide.2 cS)).mono ?_;clear cS;rintro e w6 ⟨v6,rfl,ho6,hx6⟩;obtain⟨sb,c6,q6,rfl,hq6,hb6,hs6,hc6⟩:=X6v ho6;have HX6:=hD hx6;clear ho6 hx6))
    have hz6:=HX6.out.size;have HFR6:Hid (FRows tb p ts bt bw bs w.heap.size bl bm way bg T w6):=HFRW.out.only (Only.of (F:=fun _=>False) HX6.out) (fun _ _ q=>q);have HIT6:=hD (HITW.out.ext HX6.out);have hF6:∀i,F1 i->i<W.heap.size:=HDDW.out.1;have HTT:Hid (TblAt w6 tb p ts F1):=HFR6.out.tbl (fun i q=>(HDDW.out.2 i (.inr q)).2);have hid64:In64 o.id:=by have:=HIN.out.id;unfold In64;omega
    have hgl:getL l o.id=some o:=HGET.out o hol;have cG:Hid (∀W',Ext w6 W'->cQ 72 #[tp tb,.int .i64 o.id] W' fun e w'=>e= .returned (.tuple #[.agg #[.int .i64 o.id,.int .i64 o.proc,.int .i64 o.object,.int .i64 o.kind,.int .i64 o.method,.int .i64 o.arg,.int .i64 o.second,.bool o.done,.int .i64 o.result,.int .i64 o.invoke,.int .i64 o.ret],.int .i64 0])/\∃F',TblAt w' tb p ts F'/\PagerAt w' p F' S/\Keeps F1 F' W' w'):=fun W' hW=>by have h1:=Y0x o.id W' (HTT.out.ext hW) (HIT6.out.1.ext hW) HTAB.out (hd 0 (by omega)) hid64;rw[hgl]at h1;exact h1
    have hq0:IntKind.i64.wrap (q6:Int)=q6:=by rw[IntKind.wrap_i64];omega
    have hq1:(q6:Int)<(q6:Int)+1:=by omega
    have hq2:(0:Int)<=(q6:Int):=by omega
    have hq3:((q6:Int)).toNat=q6:=by omega
    have HCS:Hid (∀W',Ext w6 W'->W'.cell? ⟨bt,0,none⟩=some (tp tb)/\W'.cell? ⟨sb,q6,none⟩=some (.int .i64 o.id)):=fun W' hW=>⟨(HFR6.out.rt.ext hW HFR6.out.rt.lt).cell 0,(hW.cell (p:=⟨sb,q6,none⟩) hs6).trans hc6⟩;have hnbt:¬F1 bt:=(HDDW.out.2 _ (.inr HFRW.out.t3.1)).2;have hnsb:¬F1 sb:=fun q=>by have:=hF6 _ q;omega
    have hn6:¬F1 w6.heap.size:=fun q=>by have:=hF6 _ q;omega
    have HC7:Hid (∀(F7:Nat->Prop) (w7 W':World),Keeps F1 F7 w6 w7->Ext w7 W'->W'.cell? ⟨bt,0,none⟩=some (tp tb)/\W'.cell? ⟨sb,q6,none⟩=some (.int .i64 o.id)):=fun F7 w7 W' hk hx=>by have hr:=hk.only.row HFR6.out.rt hnbt;have hz:=hk.only.size;exact⟨(hr.ext hx hr.lt).cell 0,(hx.cell (p:=⟨sb,q6,none⟩) (by show sb<_;omega)).trans ((hk.only.cell hs6 hnsb).trans hc6)⟩
    have HPL:=hD hm;have htl':(all.take m).length=m:=by rw[aD];omega
    have htk:all.take m++ [o]=all.take (m+1):=by rw[List.take_add_one,aB hml,hoe];rfl
    have HTK:Hid (((all.take m).length:Nat)=m/\all.take m++ [o]=all.take (m+1)):=⟨htl',htk⟩;have HPX:Hid (pre++ [kvW way o]=(all.take (m+1)).map (kvW way)):=by unfold Hid;rw[<-htk,List.map_append,<-hpre];rfl
    have HJ8:Hid (∀F7 w8,Keeps F1 F7 w6 w8->FJ bl bm most (all.take m) Gc1 w8):=fun F7 w8 hk=>(HFJW.out.only (Only.of (F:=fun _=>False) HX6.out) (fun _ _ q=>q)).only hk.only (fun i q=>(HDDW.out.2 i (.inl q)).2);have HROUND:Hid (∀(F7 G9:Nat->Prop) (w8 w9:World) (pre':List OpD),Keeps F1 F7 w6 w8->PagerAt w8 p F7 S->FRows tb p ts bt bw bs w.heap.size bl bm way bg T w8->Keeps Gc1 G9 w8 w9->FJ bl bm most pre' G9 w9->
      ∃F8 G8:Nat->Prop,ItT p (ts way) way S (fun b=>b=fb\/b=kb) F8 w9/\Dis F8 (fun i=>G8 i\/T i) w9/\Keeps (Un F1 (fun i=>Gc1 i\/T i)) (Un F8 (fun i=>G8 i\/T i)) W w9/\(∀i,T i->¬G8 i)/\FRows tb p ts bt bw bs w.heap.size bl bm way bg T w9/\FJ bl bm most pre' G8 w9):=fun F7 G9 w8 w9 pre' hk hp8 hf8 hk9 hj=>X2b hw HX6.out HITW.out HDDW.out hg1 hk hp8 hf8 hk9 hj
    clear hm hpre htl' htk;refine Y0s ?_;refine Y7y (S:=fun W=>W.cell? ⟨bt,0,none⟩=some (tp tb)/\W.cell? ⟨sb,q6,none⟩=some (.int .i64 o.id)) (by kernel_rfl) (by kernel_rfl) (HCS.out _ (by exact Xt)) (fun hHeld=> ?_);refine' tkW 0 ?_;refine' tkW 1 ?_;refine' tkW 2 ?_;refine' tkW 3 ?_;refine' tkW 4 ?_;refine' tkW 5 ?_;refine' tkW 6 ?_;refine Y7b (rs:= [7,11]) (by kernel_rfl) (by simp) ?_;refine AllReadyW.cons rfl (fun K hK=> ?_) (AllReadyW.cons rfl (fun K hK=> ?_) (AllReadyW.nil))
    ·go_simp
     (with_reducible refine(cG.out _ ?_).mono ?_)
     ·exact Xt
     rintro e w7 ⟨rfl,F7,ht7,hp7,hk7⟩;have HK7:Hid (Keeps F1 F7 w6 w7):=Keeps.trans (Keeps.of (by exact Xt)) hk7;have HP7:=hD hp7;clear ht7 hp7 hk7
     (try dsimp only)
     (try go_simp)
     refine hK.out _ _ (HC7.out _ _ _ HK7.out (Ext.refl _)) (fun hHeld=> ?_);clear hK K;refine ptW ?_;refine' tkW 8 ?_;refine' tkW 9 ?_;refine' tkW 10 ?_;refine stpW 11 (fun K hK=> ?_);go_simp
     skip
     refine hK.out _ _ (HC7.out _ _ _ HK7.out (by exact Xt)) (fun hHeld=> ?_);clear hK K;refine ptW ?_;refine stpW 12 (fun K hK=> ?_);go_simp;generalize hw8:World.alloc _ _=w8;have HZ:Hid (Keeps F1 F7 w6 w8/\Row1 w8 w7.heap.size 73 o.cells/\PagerAt w8 p F7 S):=by unfold Hid;rw[<-hw8];exact⟨HK7.out.ext (Ext.alloc _ _),Row1.made w7 _ o.cells,HP7.out.ext (Ext.alloc _ _)⟩
     clear hw8;refine hK.out _ _ (HC7.out _ _ _ HZ.out.1 (Ext.refl _)) (fun hHeld=> ?_);clear hK K;refine ptW ?_;refine' tkW 13 ?_;refine Z8a (by kernel_rfl) ?_ _;generalize w7.heap.size=D at *;dsimp only[X2n];obtain⟨o0,o1,o2,o3,o4,o5,o6,o7,o8,o9,o10⟩:=At11.row HZ.out.2.1;have HFR8:Hid (FRows tb p ts bt bw bs w.heap.size bl bm way bg T w8):=HFR6.out.only HZ.out.1.only (fun i q=>(HDDW.out.2 i (.inr q)).2);have y0:w8.cell? ⟨w.heap.size,0,none⟩=some (.func (.func 134) #[] #[tp bl,tp bm]):=HFR8.out.ry.cell 0;have cY:=Y6s o w8 (HJ8.out F7 w8 HZ.out.1) (by rw[aD];omega);rw[HTK.out.1,HTK.out.2]at cY;cases hb:decide ((m:Int)+1<most)with
     | true=>
       rw[hb]at cY;gi_wp2_with (refine ⟨trivial,?_⟩;gi_at_call 134;refine(CallsIn.inRound l' (callsIn_wide.2 cY)).mono ?_;clear cY;rintro e w9 ⟨rfl,G9,hj9,hk9⟩;have HFIN:=hD (HROUND.out F7 G9 w8 w9 _ HZ.out.1 HZ.out.2.2 HFR8.out hk9 hj9);clear hj9 hk9);obtain⟨F9,G8,r1,r2,r3,r4,r5,r6⟩:=HFIN.out;exact⟨F9,_,r1,r2,r3,G8,rfl,r4,by rw[aA,HPL.out,aK];exact HPX.out,by rw[aA,HPL.out,aK];exact hmk,⟨by rw[aA,HPL.out,aK];exact hml,by rw[aA,HPL.out,aK];have:=of_decide_eq_true hb;omega⟩,r5,by rw[aA,HPL.out,aK];exact r6⟩
     | false=>
       rw[hb]at cY;gi_wp2_with (refine ⟨trivial,?_⟩;gi_at_call 134;refine(CallsIn.inRound l' (callsIn_wide.2 cY)).mono ?_;clear cY;rintro e w9 ⟨rfl,G9,hj9,hk9⟩;have HFIN:=hD (HROUND.out F7 G9 w8 w9 _ HZ.out.1 HZ.out.2.2 HFR8.out hk9 hj9);clear hj9 hk9);obtain⟨F9,G8,r1,r2,r3,r4,r5,r6⟩:=HFIN.out;exact⟨F9,_,r1,r2,r3,rfl,G8,m+1,rfl,r4,hmk,hml,⟨.inr (by have:=of_decide_eq_false hb;omega),by have:=hpa.2;omega⟩,r5,r6⟩
    ·go_simp
     skip
     refine hK.out _ _ (HCS.out _ (by exact Xt)) (fun hHeld=> ?_);clear hK K;refine ptW ?_;refine stpW 7 (fun K hK=> ?_);go_simp
     (with_reducible refine(cG.out _ ?_).mono ?_)
     ·exact Xt
     rintro e w7 ⟨rfl,F7,ht7,hp7,hk7⟩;have HK7:Hid (Keeps F1 F7 w6 w7):=Keeps.trans (Keeps.of (by exact Xt)) hk7;have HND:Hid (¬F7 w6.heap.size):=hk7.out (by simp) hn6;have HRD:Hid (Row1 w7 w6.heap.size 73 opZero.cells):=hk7.only.row (Row1.made' (by simp) _ opZero.cells) hn6;have HP7:=hD hp7;clear ht7 hp7 hk7
     (try dsimp only)
     (try go_simp)
     refine hK.out _ _ (HC7.out _ _ _ HK7.out (Ext.refl _)) (fun hHeld=> ?_);clear hK K;refine ptW ?_;refine' tkW 8 ?_;refine' tkW 9 ?_;refine' tkW 10 ?_;obtain⟨a0,a1,a2,a3,a4,a5,a6,a7,a8,a9,a10⟩:=Z1t (show Row1 w7 w6.heap.size 73 [.int .i64 0,.int .i64 0,.int .i64 0,.int .i64 0,.int .i64 0,.int .i64 0,.int .i64 0,.bool false,.int .i64 0,.int .i64 0,.int .i64 0]from HRD.out);obtain⟨f0,f1,f2,f3,f4,f5,f6,f7,f8,f9,f10⟩:=Z4r HRD.out;refine stpW 12 (fun K hK=> ?_);go_simp;have HO8:=hD (Y1n w7 w6.heap.size (.int .i64 o.id) (.int .i64 o.proc) (.int .i64 o.object) (.int .i64 o.kind) (.int .i64 o.method) (.int .i64 o.arg) (.int .i64 o.second) (.bool o.done) (.int .i64 o.result) (.int .i64 o.invoke) (.int .i64 o.ret));have HR8:=hD (Z7d (show Row1 w7 w6.heap.size 73 [.int .i64 0,.int .i64 0,.int .i64 0,.int .i64 0,.int .i64 0,.int .i64 0,.int .i64 0,.bool false,.int .i64 0,.int .i64 0,.int .i64 0]from HRD.out) (.int .i64 o.id) (.int .i64 o.proc) (.int .i64 o.object) (.int .i64 o.kind) (.int .i64 o.method) (.int .i64 o.arg) (.int .i64 o.second) (.bool o.done) (.int .i64 o.result) (.int .i64 o.invoke) (.int .i64 o.ret));generalize hw8:World.setCell _ _ _=w8 at HO8 HR8 ⊢;have HZ:Hid (Keeps F1 F7 w6 w8/\Row1 w8 w6.heap.size 73 o.cells/\PagerAt w8 p F7 S):=⟨⟨HK7.out.only.trans HO8.out (fun i q=> .inr (by omega)),HK7.out.new⟩,HR8.out,HP7.out.only HO8.out (fun i q e=>HND.out (e▸q))⟩;clear hw8 a0 a1 a2 a3 a4 a5 a6 a7 a8 a9 a10 f0 f1 f2 f3 f4 f5 f6 f7 f8 f9 f10;refine hK.out _ _ (HC7.out _ _ _ HZ.out.1 (Ext.refl _)) (fun hHeld=> ?_);clear hK K;refine ptW ?_;refine' tkW 13 ?_;refine Z8a (by kernel_rfl) ?_ _;generalize w6.heap.size=D at *;dsimp only[X2n];obtain⟨o0,o1,o2,o3,o4,o5,o6,o7,o8,o9,o10⟩:=At11.row HZ.out.2.1;have HFR8:Hid (FRows tb p ts bt bw bs w.heap.size bl bm way bg T w8):=HFR6.out.only HZ.out.1.only (fun i q=>(HDDW.out.2 i (.inr q)).2);have y0:w8.cell? ⟨w.heap.size,0,none⟩=some (.func (.func 134) #[] #[tp bl,tp bm]):=HFR8.out.ry.cell 0;have cY:=Y6s o w8 (HJ8.out F7 w8 HZ.out.1) (by rw[aD];omega);rw[HTK.out.1,HTK.out.2]at cY;cases hb:decide ((m:Int)+1<most)with
     | true=>
       rw[hb]at cY;gi_wp2_with (refine ⟨trivial,?_⟩;gi_at_call 134;refine(CallsIn.inRound l' (callsIn_wide.2 cY)).mono ?_;clear cY;rintro e w9 ⟨rfl,G9,hj9,hk9⟩;have HFIN:=hD (HROUND.out F7 G9 w8 w9 _ HZ.out.1 HZ.out.2.2 HFR8.out hk9 hj9);clear hj9 hk9);obtain⟨F9,G8,r1,r2,r3,r4,r5,r6⟩:=HFIN.out;exact⟨F9,_,r1,r2,r3,G8,rfl,r4,by rw[aA,HPL.out,aK];exact HPX.out,by rw[aA,HPL.out,aK];exact hmk,⟨by rw[aA,HPL.out,aK];exact hml,by rw[aA,HPL.out,aK];have:=of_decide_eq_true hb;omega⟩,r5,by rw[aA,HPL.out,aK];exact r6⟩
     | false=>
       rw[hb]at cY;gi_wp2_with (refine ⟨trivial,?_⟩;gi_at_call 134;refine(CallsIn.inRound l' (callsIn_wide.2 cY)).mono ?_;clear cY;rintro e w9 ⟨rfl,G9,hj9,hk9⟩;have HFIN:=hD (HROUND.out F7 G9 w8 w9 _ HZ.out.1 HZ.out.2.2 HFR8.out hk9 hj9);clear hj9 hk9);obtain⟨F9,G8,r1,r2,r3,r4,r5,r6⟩:=HFIN.out;exact⟨F9,_,r1,r2,r3,rfl,G8,m+1,rfl,r4,hmk,hml,⟨.inr (by have:=of_decide_eq_false hb;omega),by have:=hpa.2;omega⟩,r5,r6⟩
 case done=>
  rintro D xs W F1 G1 jH rfl ⟨Gc1,rfl,hg1,hpre,hpk,hpa,hfr,hfj⟩ hit hdd hn1' hn2' hk hK;have HFIN:=HE.out D W F1 Gc1 _ jH hg1 hpk hpa.1 ⟨by
   left;have:=hf.le;rw[hf.outs,List.length_map]at hpk ⊢;omega,Int.le_of_lt hpa.2⟩ hfr hfj hit hdd hn1' hn2' hk
  have HK:=hD hK;have HFN:=hD HFIN;clear hk hit hdd hK hfr hfj HFIN;subst hA0;gi_wp2;exact⟨by simp,.inl ⟨_,_,rfl,run_takeDeferred HK.out,_,results_none rfl _ _ _,⟨_,rfl⟩,HFN.out⟩⟩
 case stop=>
  rintro D c pre W F1 G1 jH hpre ⟨rfl,Gc1,j,rfl,hg1,hjk,hja,hjm,hfr,hfj⟩ hit hdd hn1' hn2' hk hK;have HFIN:=HE.out D W F1 Gc1 _ jH hg1 hjk hja hjm hfr hfj hit hdd hn1' hn2' hk;have HK:=hD hK;have HFN:=hD HFIN;clear hk hit hdd hK hfr hfj HFIN;subst hA0;gi_wp2;exact⟨by simp,.inl ⟨_,_,rfl,run_takeDeferred HK.out,_,results_none rfl _ _ _,⟨_,rfl⟩,HFN.out⟩⟩
end Go.Proofs.YtohaldfnmgcofaaGreat
