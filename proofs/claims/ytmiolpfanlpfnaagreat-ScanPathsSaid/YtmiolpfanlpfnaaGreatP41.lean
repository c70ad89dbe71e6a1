/- What a list of operations makes of an empty table (plain law). No program. -/
import Derived.Test.YtmiolpfanlpfnaaGreatP40
set_option maxRecDepth 100000
set_option maxHeartbeats 4000000
set_option linter.unusedSimpArgs false
set_option linter.unusedVariables false
namespace Go.Proofs.YtmiolpfanlpfnaaGreat
section
open Go.RowKit
def Z8g(l:List OpD)(o:OpD):List OpD:=if Z2u o=0 then wiO l o else l
def filL(ops:List OpD):List OpD:=ops.foldl Z8g []
theorem X0s(ops:List OpD)(k:Nat)(h:k<ops.length):filL (ops.take (k+1))=Z8g (filL (ops.take k)) ops[k]:=by
 unfold filL
 rw[List.take_add_one,List.getElem?_eq_getElem h,List.foldl_append]
 rfl
theorem Y8g(ops:List OpD):∀k,k≤ops.length→(filL (ops.take k)).length≤k
 | 0,_=>by simp[filL]
 | k+1,h=>by
   have ih:=Y8g ops k (by omega)
   rw[X0s ops k h]
   unfold Z8g
   split
   ·have:=V8u (filL (ops.take k)) ops[k];omega
   ·omega
theorem V4r{S:StoreD}(h:Fm S)(hr:∀i,i<5→TrS S i .no):Tab S (fun _=> .no) (fun _=> []):=
 ⟨h,hr,fun i j _ _ _ b hb=>(by cases hb),fun i _ o ho=>(by cases ho),fun i _=>List.Pairwise.nil,fun i _ x=>⟨fun q=>(by cases q),fun⟨_,q,_⟩=>(by cases q)⟩⟩
theorem X9c{c n room:Nat}(hf:FullV (Z5b n room))(hc:c≤pgN n room-2):TabI c (Z5b n room) (fun _=> .no) [] 0:=
 ⟨V4r (V5b hf) (fun i _=>V5a n room i),List.Pairwise.nil,fun i _=>Nat.zero_le _,fun i _ x hx=>(by cases hx),by rw[X6h];show c≤_+0;omega⟩
structure FilR (w0:World) (tb p:Nat) (ts:Nat→Nat) (c:Nat) (l:List OpD) (t:Nat) (v:Value) (F:Nat→Prop) (w:World):Prop where
 ex:∃S Ts,TabI c S Ts l t∧PagerAt w p F S
 at_:TblAt w tb p ts F
 own:OwnL w w0.heap.size 32 11 OpD.cells v l
 ext:Ext w0 w
 new:∀i,F i→w0.heap.size≤i∧i<w.heap.size
 apart:∀b,v.ownBlock=some b→¬F b
 ntb:w0.heap.size≤tb
 nts:∀j,j<5→w0.heap.size≤ts j
theorem FilR.more{w0 w:World}{tb p:Nat}{ts:Nat→Nat}{c:Nat}{l:List OpD}{t u:Nat}{v:Value}{F:Nat→Prop}(h:FilR w0 tb p ts c l t v F w)(hu:t≤u):FilR w0 tb p ts c l u v F w:=by
 obtain⟨S,Ts,h1,h2⟩:=h.ex
 exact⟨⟨S,Ts,h1.more hu,h2⟩,h.at_,h.own,h.ext,h.new,h.apart,h.ntb,h.nts⟩
theorem FilR.to{w0 w w':World}{tb p:Nat}{ts:Nat→Nat}{c:Nat}{l:List OpD}{t:Nat}{v:Value}{F:Nat→Prop}(h:FilR w0 tb p ts c l t v F w)(hx:Ext w w'):FilR w0 tb p ts c l t v F w':=by
 obtain⟨S,Ts,h1,h2⟩:=h.ex
 exact⟨⟨S,Ts,h1,h2.ext hx⟩,h.at_.ext hx,h.own.ext hx,h.ext.trans hx,fun i q=>⟨(h.new i q).1,Nat.lt_of_lt_of_le (h.new i q).2 hx.size⟩,h.apart,h.ntb,h.nts⟩
theorem X0r(V:Value)(ops:List OpD)(w:World)(hs:Sl w 11 ROp V ops)(hin:∀o∈ops,In64 o.result):
  Calls Tryz.prog 25 #[V] w fun e w'=>∃tb p ts v F,e= .returned (.tuple #[.pointer (some ⟨tb,0,none⟩),v])∧FilR w tb p ts 796 (filL (ops.take 24)) 24 v F w':=by
 obtain⟨A,c,rfl⟩:=hs.form
 obtain⟨_,hc1,hc2,hA⟩:=hs.at
 have HA:=hD hA
 have HIN:=hD hin
 have cN:Calls Tryz.prog 49 #[.int .i64 1000] w _:=X2o 1000 w (by omega) (by omega)
 have cF:Hid (∀W (g:Nat) (F1:Nat→Prop),DiskAt W g F1 (newD 1000)→Calls Tryz.prog 50 #[.pointer (some ⟨g,0,none⟩),.int .i64 200] W fun e w'=>e= .returned (.int .i64 0)∧∃F',DiskAt w' g F' (fmtD 1000 200 (pgN 1000 200))∧Keeps F1 F' W w'):=fun W g F1 hW=>X7m 1000 200 (pgN 1000 200) W hW (by omega) (by omega) (by omega) rfl
 have cO:Hid (∀W (g:Nat) (F2:Nat→Prop),DiskAt W g F2 (fmtD 1000 200 (pgN 1000 200))→Calls Tryz.prog 51 #[.pointer (some ⟨g,0,none⟩)] W fun e w'=>∃s F',e= .returned (.tuple #[.pointer (some ⟨s,0,none⟩),.int .i64 0])∧StoreAt w' s F' (Y6a 1000 200)∧Keeps F2 F' W w'∧W.heap.size≤s):=fun W g F2 hW=>X6b (Z4q 1000 200) W hW rfl (by rw[V2q];omega) (X7k (by omega) (by omega) (by omega)) (X0k (by omega) (by omega) (by omega)) rfl
 have cP:Hid (∀W (s:Nat) (F2:Nat→Prop),StoreAt W s F2 (Y6a 1000 200)→Calls Tryz.prog 52 #[.pointer (some ⟨s,0,none⟩)] W fun e w'=>∃p F',e= .returned (.tuple #[.pointer (some ⟨p,0,none⟩),.int .i64 0])∧PagerAt w' p F' (Y6a 1000 200)∧Keeps F2 F' W w'∧W.heap.size≤p):=fun W s F2 hW=>Y9u W hW (X6i 1000 200) (by decide)
 have cG:Hid (∀W (p:Nat) (F2:Nat→Prop),PagerAt W p F2 (Y6a 1000 200)→Calls Tryz.prog 53 #[.pointer (some ⟨p,0,none⟩)] W fun e w'=>e= .returned (.int .i64 0)∧∃F',PagerAt w' p F' (Z5b 1000 200)∧Keeps F2 F' W w'):=fun W p F2 hW=>X1r W hW
 clear hs hA hin
 go_enter Tryz.func25,Tryz.ntmps25
 go_wp2_with (first | (go_at_call 49;(with_reducible refine cN.mono ?_);clear cN;rintro e w1 ⟨g,F1,rfl,hd1,hx1,hn1⟩;have HX1:=hD hx1;have HN1:=hD hn1;have HD1:=hD hd1;clear hx1 hn1 hd1) | (go_at_call 50;(with_reducible refine(cF.out _ _ _ HD1.out).mono ?_);clear cF;rintro e w2 ⟨rfl,F2,hd2,hk2⟩;have HK2:=hD hk2;have HD2:=hD hd2;clear hk2 hd2) | (go_at_call 51;(with_reducible refine(cO.out _ _ _ HD2.out).mono ?_);clear cO;rintro e w3 ⟨s,F3,rfl,hs3,hk3,hz3⟩;have HK3:=hD hk3;have HS3:=hD hs3;clear hk3 hs3 hz3) | (go_at_call 52;(with_reducible refine(cP.out _ _ _ HS3.out).mono ?_);clear cP;rintro e w4 ⟨p,F4,rfl,hp4,hk4,hz4⟩;have HK4:=hD hk4;have HP4:=hD hp4;clear hk4 hp4 hz4) | (go_at_call 53;(with_reducible refine(cG.out _ _ _ HP4.out).mono ?_);clear cG;rintro e w5 ⟨rfl,F5,hp5,hk5⟩;have HK5:=hD hk5;have HP5:=hD hp5;clear hk5 hp5;have cT:=Y9e w5 HP5.out) | (go_at_call 54;(with_reducible refine cT.mono ?_);clear cT;rintro e w6 ⟨tb,ts,F6,rfl,ht6,hp6,hk6,hz6,hy6⟩;have HY6:=hD hy6;have HK6:=hD hk6;have HP6:=hD hp6;have HT6:=hD ht6;have HZ6:=hD hz6;clear hk6 hp6 ht6 hz6 hy6))
 have H0:Hid (FilR w tb p ts 796 (filL (ops.take 0)) 0 (.slice none 0 0) (fun i=>F6 i∧i<w6.heap.size) w6):=by
  have h1:=((((HK2.out.trans HK3.out).trans HK4.out).trans HK5.out).trans HK6.out).fresh HX1.out HN1.out
  have h3:=Nat.le_trans (Nat.le_trans (Nat.le_trans HX1.out.size HK2.out.only.size) HK3.out.only.size) (Nat.le_trans HK4.out.only.size HK5.out.only.size)
  have h2:=Nat.le_trans h3 HZ6.out
  exact⟨⟨_,_,X9c HP6.out.full (by decide),HP6.out.shrink⟩,⟨HT6.out.row,HT6.out.tree,fun q=>HT6.out.out q.1,fun j hj q=>HT6.out.outs j hj q.1⟩,OwnL.nil _ _ _ _ _,h1.1,fun i q=>⟨h1.2 i q.1,q.2⟩,fun b q=>(by cases q),h2,fun j hj=>Nat.le_trans h3 (HY6.out j hj)⟩
 clear HK2 HK3 HK4 HK5 HK6 HP6 HT6 HZ6 HX1 HN1 HY6
 go_loopw [10,9] (fun i v wr=>∃(k:Nat) (F:Nat→Prop),k≤ops.length∧k≤24∧i= .int .i64 k∧FilR w tb p ts 796 (filL (ops.take k)) k v F wr)
  (fun i _ _=>ops.length-(intOf i).toNat)
 case atStart=>exact⟨0,_,by omega,by omega,rfl,H0.out⟩
 case round=>
  obtain⟨k,F,hk,hk24,rfl,hr⟩:=hrel
  have HR:=hD hr
  obtain⟨vA,vc,rfl⟩:=hr.own.form
  clear hr
  by_cases hlt:k<ops.length
  ·have hd:decide ((k:Int)<(ops.length:Int))=true:=by simp;omega
   by_cases h24:k<24
   ·have hd2:decide ((k:Int)<24)=true:=by simp;omega
    have HT:=hD (X0s ops k hlt)
    have HLEN:=hD (Y8g ops k hk)
    have HRES:=hD (HIN.out _ (List.getElem_mem hlt))
    obtain⟨b,off,rfl,hbl,hx⟩:=HA.out (by omega)
    obtain⟨cs,rfl,_,hcs⟩:=hx k hlt
    have HE:Hid (∀W:World,Ext w W→(W.cell? ⟨b,off+k*11,none⟩=some (.int .i64 ops[k].id)∧W.cell? ⟨b,off+k*11+1,none⟩=some (.int .i64 ops[k].proc)∧W.cell? ⟨b,off+k*11+2,none⟩=some (.int .i64 ops[k].object)∧W.cell? ⟨b,off+k*11+3,none⟩=some (.int .i64 ops[k].kind)∧W.cell? ⟨b,off+k*11+4,none⟩=some (.int .i64 ops[k].method)∧W.cell? ⟨b,off+k*11+5,none⟩=some (.int .i64 ops[k].arg)∧W.cell? ⟨b,off+k*11+6,none⟩=some (.int .i64 ops[k].second)∧W.cell? ⟨b,off+k*11+7,none⟩=some (.bool ops[k].done)∧W.cell? ⟨b,off+k*11+8,none⟩=some (.int .i64 ops[k].result)∧W.cell? ⟨b,off+k*11+9,none⟩=some (.int .i64 ops[k].invoke)∧W.cell? ⟨b,off+k*11+10,none⟩=some (.int .i64 ops[k].ret))):=by
     intro W h
     have hw:=fun j u hu=>(h.cell (p:=⟨b,off+k*11+j,none⟩) hbl).trans (hcs j u hu)
     exact⟨hw 0 _ rfl,hw 1 _ rfl,hw 2 _ rfl,hw 3 _ rfl,hw 4 _ rfl,hw 5 _ rfl,hw 6 _ rfl,hw 7 _ rfl,hw 8 _ rfl,hw 9 _ rfl,hw 10 _ rfl⟩
    clear hx hcs
    generalize ops[k]=x at *
    generalize filL (ops.take k)=out at *
    obtain⟨e0,e1,e2,e3,e4,e5,e6,e7,e8,e9,e10⟩:=HE.out wr HR.out.ext
    obtain⟨S,Ts,hI,hP⟩:=HR.out.ex
    have HI:=hD hI
    have HP:=hD hP
    clear hI hP
    have hsp:Y2w (k+1)≤796:=Nat.le_trans (Z9z (show k+1≤24 by omega)) (by decide)
    cases ho:decide (Z2u x=0)with
    | true=>
      have ho':=of_decide_eq_true ho
      have HO:=hD ho'
      have HFS:Hid (Z8g out x=wiO out x):=by unfold Hid Z8g;rw[if_pos ho']
      have cPut:=X5x x wr HR.out.at_ HP.out ho' HI.out.tab (fun i hi=>HI.out.dep (by omega) i hi) (HI.out.enough hsp)
      clear ho ho'
      go_wp2_with (first
       | (go_at_call 55;(with_reducible refine cPut.mono ?_);clear cPut;rintro e w1 ⟨rfl,S1,Ts1,hb1,F1,ht1,hp1,hk1⟩;have HB1:=hD hb1;have HT1:=hD ht1;have HP1:=hD hp1;have HK1:=hD hk1;clear hb1 ht1 hp1 hk1 e0 e1 e2 e3 e4 e5 e6 e7 e8 e9 e10;have HX1:Hid (Ext w w1):=(HK1.out.fresh HR.out.ext (fun i q=>(HR.out.new i q).1)).1;obtain⟨e0,e1,e2,e3,e4,e5,e6,e7,e8,e9,e10⟩:=HE.out w1 HX1.out;have HOW:Hid (OwnL w1 w.heap.size 32 11 OpD.cells (.slice vA out.length vc) out):=HR.out.own.only HK1.out.only (fun b q=>HR.out.apart b q))
       | (go_at_call 57;refine(X1n _ out x _ (HOW.out.sl (R:=ROp) Z2x (fun _=>rfl)) (by have:=HLEN.out;omega)).mono ?_;rintro e w2 ⟨⟨v2,rfl,ho2⟩,hb2⟩;have HO2:=hD ho2;have HB2:=hD hb2;clear ho2 hb2))
      go_roundw
      case rel=>
       refine⟨k+1,fun i=>F1 i∧i<w1.heap.size,by omega,by omega,by go_num,?_⟩
       rw[HT.out,HFS.out]
       have z1:=HX1.out.size
       refine⟨⟨S1,Ts1,HI.out.put HO.out HB1.out,HP1.out.shrink.ext HB2.out⟩,TblAt.ext ⟨HT1.out.row,HT1.out.tree,fun q=>HT1.out.out q.1,fun j hj q=>HT1.out.outs j hj q.1⟩ HB2.out,HO2.out.lower z1,HX1.out.trans HB2.out,fun i q=>⟨(HK1.out.fresh HR.out.ext (fun i q=>(HR.out.new i q).1)).2 i q.1,Nat.lt_of_lt_of_le q.2 HB2.out.size⟩,fun b q r=> ?_,HR.out.ntb,HR.out.nts⟩
       have:=(HO2.out.lt b q).1
       omega
      case measure=>simp[intOf];omega
    | false=>
      have ho':=of_decide_eq_false ho
      have HFS:Hid (Z8g out x=out):=by unfold Hid Z8g;rw[if_neg ho']
      have cPut:=X5w x wr HR.out.at_ ho' HRES.out
      have hq:(Z2u x==0)=false:=by simpa using ho'
      clear ho ho'
      generalize Z2u x=oc at *
      go_wp2_with (go_at_call 55;(with_reducible refine cPut.mono ?_);clear cPut;rintro e w1 ⟨rfl,hx1⟩;have HX1:=hD hx1;clear hx1)
      go_roundw
      case rel=>
       refine⟨k+1,F,by omega,by omega,by go_num,?_⟩
       rw[HT.out,HFS.out]
       exact(HR.out.to HX1.out).more (by omega)
      case measure=>simp[intOf];omega
   ·obtain rfl:k=24:=by omega
    have hd2:decide (((24:Nat):Int)<24)=false:=by simp
    go_wp2_with fail
    go_ret2
    exact⟨tb,p,ts,_,F,rfl,HR.out⟩
  ·have hd:decide ((k:Int)<(ops.length:Int))=false:=by simp;omega
   have HFIN:Hid (FilR w tb p ts 796 (filL (ops.take 24)) 24 (.slice vA (filL (ops.take k)).length vc) F wr):=by
    have e1:ops.take 24=ops.take k:=by rw[List.take_of_length_le (by omega),List.take_of_length_le (by omega)]
    unfold Hid
    rw[e1]
    exact HR.out.more hk24
   go_wp2_with fail
   go_ret2
   exact⟨tb,p,ts,_,F,rfl,HFIN.out⟩
theorem X9l(f:Nat)(ya yb:Array Value)(W:World):Sem.run Tryz.prog (binOp .eql 44 (.func (.func f) ya yb) .nilFunc) W= .ok (.bool false) W:=by kernel_rfl
def kvW(way:Nat)(o:OpD):KV:=(wayK way o,recW way o)
theorem V1b{way:Nat}{l:List OpD}:∀(L:List KV),(∀x∈L,∃o∈l,x=kvW way o)→∃os:List OpD,L=os.map (kvW way)∧∀o∈os,o∈l
 | [],_=>⟨[],rfl,fun _ h=>by cases h⟩
 | x::r,h=>by
   obtain⟨o,ho,rfl⟩:=h x List.mem_cons_self
   obtain⟨os,h1,h2⟩:=V1b r (fun y hy=>h y (List.mem_cons_of_mem _ hy))
   exact⟨o::os,by rw[h1];rfl,fun a ha=>by
    rcases List.mem_cons.1 ha with rfl | ha
    ·exact ho
    ·exact h2 a ha⟩
theorem Y2v{α:Type}(p:α→Bool):∀l:List α,∃k,k≤l.length∧(∀i (h:i<l.length),i<k→p l[i]=true)∧∀h:k<l.length,p l[k]=false
 | []=>⟨0,Nat.le_refl _,fun i h=>absurd h (by simp),fun h=>absurd h (by simp)⟩
 | a::r=>by
   cases hp:p a with
   | false=>exact⟨0,by simp,fun i h q=>absurd q (by omega),fun _=>by simpa using hp⟩
   | true=>
     obtain⟨k,h1,h2,h3⟩:=Y2v p r
     refine⟨k+1,by simp;omega,fun i h q=> ?_,fun h=> ?_⟩
     ·cases i with
      | zero=>simpa using hp
      | succ i=>simpa using h2 i (by simpa using h) (by omega)
     ·simpa using h3 (by simpa using h)
attribute [local go_sem] Oper.semAt_some
theorem V8r(p q:Tmp)(u v:Value)(t:Array Value):(#[p,q].zip #[u,v]).foldl (fun t (p,v)=>t.setIfInBounds p v) t=(t.setIfInBounds p u).setIfInBounds q v:=by simp
theorem X4l:∀ {l:List OpD} (_:l.Pairwise (fun a b=>a.id≠b.id)) {o:OpD} (_:o∈l),getL l o.id=some o
 | [],_,_,h=>by cases h
 | a::r,hp,o,h=>by
   unfold getL
   rw[List.find?_cons]
   rcases List.mem_cons.1 h with rfl | h
   ·simp
   ·have:=(List.pairwise_cons.1 hp).1 o h
    rw[show (a.id==o.id)=false by simpa using this]
    exact X4l (List.pairwise_cons.1 hp).2 h
theorem U0f{motive:Act→Prop}{a:Act}(h:∀a0,a0=a→motive a0):motive a:=h a rfl
end
section
open Go.RowKit
def T1(tb:Nat)(ts:Nat→Nat)(bt:Nat):Nat→Prop:=fun i=>i=tb∨(∃j,j<5∧i=ts j)∨i=bt
section
variable (tb p:Nat) (ts:Nat→Nat) (bt bs by_ fb kb l way:Nat) (begin:ByteArray) (J Jx:List OpD→(Nat→Prop)→World→Prop) (all:List OpD) (k:Nat)
end
section
variable {tb p:Nat} {ts:Nat→Nat} {bt bs by_ fb kb l way:Nat} {begin:ByteArray} {J Jx:List OpD→(Nat→Prop)→World→Prop} {all:List OpD} {k:Nat}
end
theorem X8s(a b:List UInt8):Z6j (bts a) (bts b)=true↔b <+: a:=by rw[X5s,List.isPrefixOf_iff_prefix]
section
variable {S:StoreD} {Ts:Nat→TrD} {l all:List OpD} {way k:Nat} {fr:List UInt8}
end
theorem V6h:∀(a b:List Int),a <+: b→keyL a <+: keyL b:=fun a b ⟨r,h⟩=>⟨keyL r,by rw[←h];unfold keyL;rw[List.flatMap_append]⟩
def goR(way:Nat)(fl:List Int)(hi:Int)(o:OpD):Bool:=Z6j (wayK way o) (bts (keyL fl))&&(match (wayL way o)[fl.length]? with | some x=>decide (x≤hi) | none=>false)
structure Ranges (Ts:Nat→TrD) (way:Nat) (fl:List Int) (lo hi:Int) (l all:List OpD) (k:Nat):Prop where
 outs:Z0z (Ts way).list (bts (keyL (fl++ [lo])))=all.map (kvW way)
 mem:∀o∈all,o∈l
 under:∀i (h:i<all.length),i<k→goR way fl hi all[i]=true
 stop:∀h:k<all.length,goR way fl hi all[k]=false
 le:k≤all.length
theorem Tab.ranges{S:StoreD}{Ts:Nat→TrD}{l:List OpD}{way:Nat}(h:Tab S Ts (fun _=>l))(hw:way<5)(fl:List Int)(lo hi:Int):∃all k,Ranges Ts way fl lo hi l all k:=by
 obtain⟨all,h1,h2⟩:=V1b (way:=way) (l:=l) (Z0z (Ts way).list (bts (keyL (fl++ [lo])))) (fun x hx=>by
  obtain⟨o,ho,e⟩:=(h.mem way hw x).1 ((List.mem_filter.1 hx).1)
  exact⟨o,ho,e⟩)
 obtain⟨k,h3,h4,h5⟩:=Y2v (fun o=>goR way fl hi o) all
 exact⟨all,k,h1,h2,h4,h5,h3⟩
def RT(tb:Nat)(ts:Nat→Nat)(bt bh bn bo by_:Nat):Nat→Prop:=fun i=>i=tb∨(∃j,j<5∧i=ts j)∨i=bt∨i=bh∨i=bn∨i=bo∨i=by_
structure RRows (tb p:Nat) (ts:Nat→Nat) (bt bh bn bo by_:Nat) (head:ByteArray) (n:Nat) (hi:Int) (yv:Value) (W:World):Prop where
 row:V3y W tb ts
 tree:∀j,j<5→Z0b W (ts j) p j
 rt:Row1 W bt 26 [tp tb]
 rh:Row1 W bh 9 [.string head]
 rn:Row1 W bn 3 [.int .i64 n]
 ro:Row1 W bo 3 [.int .i64 hi]
 ry:Row1 W by_ 46 [yv]
section
variable {tb p:Nat} {ts:Nat→Nat} {bt bh bn bo by_ way:Nat} {head:ByteArray} {n:Nat} {hi:Int} {yv:Value}
theorem RRows.only{G:Nat→Prop}{W W':World}(h:RRows tb p ts bt bh bn bo by_ head n hi yv W)(ho:Only G W W')(hG:∀i,RT tb ts bt bh bn bo by_ i→¬G i):RRows tb p ts bt bh bn bo by_ head n hi yv W':=
 ⟨ho.row h.row (hG _ (.inl rfl)),fun j hj=>ho.row (h.tree j hj) (hG _ (.inr (.inl ⟨j,hj,rfl⟩))),ho.row h.rt (hG _ (.inr (.inr (.inl rfl)))),ho.row h.rh (hG _ (.inr (.inr (.inr (.inl rfl))))),ho.row h.rn (hG _ (.inr (.inr (.inr (.inr (.inl rfl)))))),ho.row h.ro (hG _ (.inr (.inr (.inr (.inr (.inr (.inl rfl))))))),ho.row h.ry (hG _ (.inr (.inr (.inr (.inr (.inr (.inr rfl)))))))⟩
theorem RRows.tbl{F:Nat→Prop}{W:World}(h:RRows tb p ts bt bh bn bo by_ head n hi yv W)(hF:∀i,RT tb ts bt bh bn bo by_ i→¬F i):TblAt W tb p ts F:=⟨h.row,h.tree,hF _ (.inl rfl),fun j hj=>hF _ (.inr (.inl ⟨j,hj,rfl⟩))⟩
theorem RRows.keeps{F0 F1 Gc Gc1:Nat→Prop}{W0 W:World}(h1:RRows tb p ts bt bh bn bo by_ head n hi yv W0)(h2:RRows tb p ts bt bh bn bo by_ head n hi yv W)
 (hF:∀i,RT tb ts bt bh bn bo by_ i→¬F1 i∧¬Gc1 i)(hk:Keeps (Un F0 (fun i=>Gc i∨RT tb ts bt bh bn bo by_ i)) (Un F1 (fun i=>Gc1 i∨RT tb ts bt bh bn bo by_ i)) W0 W):Keeps (Un F0 Gc) (Un F1 Gc1) W0 W:=by
 have hb:∀i,RT tb ts bt bh bn bo by_ i→W.heap[i]? =W0.heap[i]? :=fun i q=>by
  rcases q with rfl | ⟨j,hj,rfl⟩ | rfl | rfl | rfl | rfl | rfl
  ·exact h2.row.trans h1.row.symm
  ·exact(h2.tree j hj).trans (h1.tree j hj).symm
  ·exact h2.rt.trans h1.rt.symm
  ·exact h2.rh.trans h1.rh.symm
  ·exact h2.rn.trans h1.rn.symm
  ·exact h2.ro.trans h1.ro.symm
  ·exact h2.ry.trans h1.ry.symm
 refine⟨⟨hk.only.os,hk.only.tape,hk.only.output,hk.only.size,fun i hi hn=> ?_⟩,fun i q=> ?_⟩
 ·by_cases ht:RT tb ts bt bh bn bo by_ i
  ·exact hb i ht
  ·exact hk.only.block i hi (fun r=>by
    rcases r with r | r | r
    ·exact hn (.inl r)
    ·exact hn (.inr r)
    ·exact ht r)
 ·have hnT:¬RT tb ts bt bh bn bo by_ i:=fun r=>by
   rcases q with q | q
   ·exact(hF i r).1 q
   ·exact(hF i r).2 q
  rcases hk.new i (q.elim .inl (fun q=> .inr (.inl q)))with (r | r | r) | r
  ·exact .inl (.inl r)
  ·exact .inl (.inr r)
  ·exact absurd r hnT
  ·exact .inr r
theorem V4v{K F1 F7 Gc1 G9:Nat→Prop}{S:StoreD}{W w6 w8 w9:World}(hw:way<5)(hx:Ext W w6)(hit:ItT p (ts way) way S K F1 W)(hdd:Dis F1 (fun i=>Gc1 i∨RT tb ts bt bh bn bo by_ i) W)(hg1:∀i,RT tb ts bt bh bn bo by_ i→¬Gc1 i)
 (hk:Keeps F1 F7 w6 w8)(hp8:PagerAt w8 p F7 S)(hf8:RRows tb p ts bt bh bn bo by_ head n hi yv w8)(hk9:Keeps Gc1 G9 w8 w9)(hl9:∀i,G9 i→i<w9.heap.size):
  ∃F8:Nat→Prop,ItT p (ts way) way S K F8 w9∧Dis F8 (fun i=>G9 i∨RT tb ts bt bh bn bo by_ i) w9∧Keeps (Un F1 (fun i=>Gc1 i∨RT tb ts bt bh bn bo by_ i)) (Un F8 (fun i=>G9 i∨RT tb ts bt bh bn bo by_ i)) W w9∧(∀i,RT tb ts bt bh bn bo by_ i→¬G9 i)∧RRows tb p ts bt bh bn bo by_ head n hi yv w9:=by
 have z1:=hx.size
 have z2:=hk.only.size
 have z3:=hk9.only.size
 have hGF:∀i,Gc1 i→¬F7 i:=fun i q=>hk.out (by have:=(hdd.2 i (.inl q)).1;omega) (hdd.2 i (.inl q)).2
 have hTF:∀i,RT tb ts bt bh bn bo by_ i→i<W.heap.size∧¬F7 i:=fun i q=>⟨(hdd.2 i (.inr q)).1,hk.out (by have:=(hdd.2 i (.inr q)).1;omega) (hdd.2 i (.inr q)).2⟩
 refine⟨fun i=>F7 i∧i<w8.heap.size,⟨hp8.shrink.only hk9.only (fun i q r=>hGF i r q.1),(hf8.only hk9.only hg1).tree way hw,fun q=>(hTF _ (.inr (.inl ⟨way,hw,rfl⟩))).2 q.1,fun b q=> ?_⟩,⟨fun i q=>by omega,fun i q=> ?_⟩,⟨?_,fun i q=> ?_⟩,fun i q r=>hk9.out (by have:=(hTF i q).1;omega) (hg1 i q) r,hf8.only hk9.only hg1⟩
 ·have:=hit.2.2.2 b q
  exact⟨fun r=>hk.out (by omega) this.1 r.1,by omega⟩
 ·rcases q with q | q
  ·refine⟨hl9 i q,fun r=> ?_⟩
   rcases hk9.new i q with s | s
   ·exact hGF i s r.1
   ·omega
  ·exact⟨by have:=(hTF i q).1;omega,fun r=>(hTF i q).2 r.1⟩
 ·exact((Only.of hx).trans hk.only (fun i q=> .inl (.inl q))).trans hk9.only (fun i q=> .inl (.inr (.inl q)))
 ·rcases q with q | q | q
  ·rcases hk.new i q.1 with s | s
   ·exact .inl (.inl s)
   ·exact .inr (by omega)
  ·rcases hk9.new i q with s | s
   ·exact .inl (.inr (.inl s))
   ·exact .inr (by omega)
  ·exact .inl (.inr (.inr q))
end
structure YPost (J Jx:List OpD→(Nat→Prop)→World→Prop) (pre:List OpD) (G:Nat→Prop) (W:World) (b:Bool) (W':World):Prop where
 ex:∃G2:Nat→Prop,(b=true→J pre G2 W')∧(b=false→Jx pre G2 W')∧Keeps G G2 W W'∧∀i,G2 i→i<W'.heap.size
section
variable (tb p:Nat) (ts:Nat→Nat) (bt bh bn bo by_ way:Nat) (head:ByteArray) (n:Nat) (hi:Int) (yv:Value) (J Jx:List OpD→(Nat→Prop)→World→Prop) (all:List OpD) (k:Nat)
def RgI(pre:List KV)(G:Nat→Prop)(W:World):Prop:=
 ∃Gc:Nat→Prop,G=(fun i=>Gc i∨RT tb ts bt bh bn bo by_ i)∧(∀i,RT tb ts bt bh bn bo by_ i→¬Gc i)∧pre=(all.take pre.length).map (kvW way)∧pre.length≤k∧pre.length≤all.length∧RRows tb p ts bt bh bn bo by_ head n hi yv W∧J (all.take pre.length) Gc W
def RgX(G:Nat→Prop)(W:World):Prop:=
 ∃(Gc:Nat→Prop) (j:Nat),G=(fun i=>Gc i∨RT tb ts bt bh bn bo by_ i)∧(∀i,RT tb ts bt bh bn bo by_ i→¬Gc i)∧j≤k∧j≤all.length∧RRows tb p ts bt bh bn bo by_ head n hi yv W∧((j=k∧J (all.take j) Gc W)∨Jx (all.take j) Gc W)
end
section
variable {tb p:Nat} {ts:Nat→Nat} {bt bh bn bo by_ way:Nat} {head:ByteArray} {n:Nat} {hi:Int} {yv:Value} {J Jx:List OpD→(Nat→Prop)→World→Prop} {all:List OpD} {k:Nat}
theorem RgI.abides(hJ:Z2t J):Z2t (RgI tb p ts bt bh bn bo by_ way head n hi yv J all k):=by
 rintro s G W W' ⟨Gc,rfl,h1,h2,h3,h4,h5,h6⟩ hlt ho
 exact⟨Gc,rfl,h1,h2,h3,h4,h5.only ho (fun i q r=>r (.inr q)),hJ _ _ _ _ h6 (fun i q=>hlt i (.inl q)) (ho.mono (fun i q=> .inl (fun r=>q (.inl r))))⟩
theorem RgX.abides(hJ:Z2t J)(hJx:Z2t Jx)(G:Nat→Prop)(W W':World)(h:RgX tb p ts bt bh bn bo by_ head n hi yv J Jx all k G W)(hlt:∀i,G i→i<W.heap.size)(ho:Only (fun i=>¬G i) W W'):RgX tb p ts bt bh bn bo by_ head n hi yv J Jx all k G W':=by
 obtain⟨Gc,j,rfl,h1,h2,h3,h4,h5⟩:=h
 have ho':Only (fun i=>¬Gc i) W W':=ho.mono (fun i q=> .inl (fun r=>q (.inl r)))
 refine⟨Gc,j,rfl,h1,h2,h3,h4.only ho (fun i q r=>r (.inr q)),?_⟩
 rcases h5 with ⟨q1,q2⟩ | q
 ·exact .inl ⟨q1,hJ _ _ _ _ q2 (fun i q=>hlt i (.inl q)) ho'⟩
 ·exact .inr (hJx _ _ _ _ q (fun i q=>hlt i (.inl q)) ho')
end
theorem X1l{w:World}{base:Nat}{v:Value}{way:Nat}{o:OpD}(h:OwnL w base 3 1 encN v (wayL way o)):∃sb cap q,v= .slice (some ⟨sb,0,none⟩) (q+1) cap∧q<3∧(wayL way o).length=q+1∧base≤sb∧sb<w.heap.size∧w.cell? ⟨sb,q,none⟩=some (.int .i64 o.id)∧∀i x,(wayL way o)[i]? =some x→w.cell? ⟨sb,i,none⟩=some (.int .i64 x):=by
 have hw:=Z3k way o
 obtain⟨g,cap,spare,rfl,hbg,hr,h4⟩:=h.row (by omega)
 have hlt:=h.lt g rfl
 obtain⟨q,hq⟩:∃q,(wayL way o).length=q+1:=⟨(wayL way o).length-1,by omega⟩
 have hc:∀i x,(wayL way o)[i]? =some x→w.cell? ⟨g,i,none⟩=some (.int .i64 x):=fun i x hx=>by
  have hi:i<(wayL way o).length:=by have:=List.getElem?_eq_some_iff.1 hx;exact this.1
  rw[hr.cell i,List.getElem?_append_left (by rw[Z0r Z0h];omega)]
  have:=Z2l encN 1 Z0h (wayL way o) i x hx 0 (.int .i64 x) rfl
  rwa [Nat.mul_one,Nat.add_zero]at this
 refine⟨g,cap,q,by rw[hq],by omega,hq,hlt.1,hlt.2,hc q _ ?_,hc⟩
 have:=Z4m way o
 rw[List.getLast?_eq_getElem?,hq]at this
 exact this
structure PJ (bl:Nat) (pre:List OpD) (G:Nat→Prop) (W:World):Prop where
 list:∃A c,OwnL W 0 32 11 OpD.cells (.slice A pre.length c) pre∧Row1 W bl 30 [.slice A pre.length c]∧∀k,(Value.slice A pre.length c).ownBlock=some k→G k
 gl:G bl
theorem PJ.only{bl:Nat}{pre:List OpD}{G H:Nat→Prop}{W W':World}(h:PJ bl pre G W)(ho:Only H W W')(hH:∀i,G i→¬H i):PJ bl pre G W':=by
 obtain⟨A,c,h1,h2,h3⟩:=h.list
 exact⟨⟨A,c,h1.only ho (fun k hk=>hH k (h3 k hk)),ho.row h2 (hH _ h.gl),h3⟩,h.gl⟩
theorem PJ.abides{bl:Nat}:Z2t (PJ bl):=fun s G W W' h _ ho=>h.only ho (fun i q r=>r q)
def PX(bl:Nat)(pre:List OpD)(G:Nat→Prop)(W:World):Prop:=PJ bl pre G W∧1000≤pre.length
theorem PX.abides{bl:Nat}:Z2t (PX bl):=fun s G W W' h hl ho=>⟨PJ.abides s G W W' h.1 hl ho,h.2⟩
theorem V0i{bl:Nat}{pre:List OpD}{G:Nat→Prop}(x:OpD)(W:World)(h:PJ bl pre G W)(hp:pre.length≤100000):
  Calls Tryz.prog 32 #[x.val,.pointer (some ⟨bl,0,none⟩)] W fun e W'=>∃b:Bool,e= .returned (.bool b)∧YPost (PJ bl) (PX bl) (pre++ [x]) G W b W':=by
 obtain⟨A,c,ho,hr,hk⟩:=h.list
 have hgl:=h.gl
 have hvl:(Value.slice A pre.length c).ownBlock≠some bl:=ho.apartRow hr (by decide)
 have c0:W.cell? ⟨bl,0,none⟩=some (.slice A pre.length c):=hr.cell 0
 have HO:=hD ho
 have HR:=hD hr
 have HK:=hD hk
 have HGL:=hD hgl
 have hbl:=hr.lt
 obtain⟨n,hn⟩:∃n,pre.length=n:=⟨_,rfl⟩
 have HN:=hD hn
 have HLN:Hid ((pre++ [x]).length=n+1):=by unfold Hid;rw[List.length_append,List.length_singleton,hn]
 rw[hn]at hp ho hr hk hvl c0 HO HR HK
 clear h hn ho hr hk hgl
 go_enter Tryz.func32,Tryz.ntmps32
 go_upto_region 1 with fail
 have HX2:Hid (Ext W ((W.alloc (.cells #[.int .i64 x.id,.int .i64 x.proc,.int .i64 x.object,.int .i64 x.kind,.int .i64 x.method,.int .i64 x.arg,.int .i64 x.second,.bool x.done,.int .i64 x.result,.int .i64 x.invoke,.int .i64 x.ret] 32)).alloc (.cells #[.int .i64 x.id,.int .i64 x.proc,.int .i64 x.object,.int .i64 x.kind,.int .i64 x.method,.int .i64 x.arg,.int .i64 x.second,.bool x.done,.int .i64 x.result,.int .i64 x.invoke,.int .i64 x.ret] 32))):=(Ext.alloc _ _).trans (Ext.alloc _ _)
 have HOX:Hid (OwnL ((W.alloc (.cells #[.int .i64 x.id,.int .i64 x.proc,.int .i64 x.object,.int .i64 x.kind,.int .i64 x.method,.int .i64 x.arg,.int .i64 x.second,.bool x.done,.int .i64 x.result,.int .i64 x.invoke,.int .i64 x.ret] 32)).alloc (.cells #[.int .i64 x.id,.int .i64 x.proc,.int .i64 x.object,.int .i64 x.kind,.int .i64 x.method,.int .i64 x.arg,.int .i64 x.second,.bool x.done,.int .i64 x.result,.int .i64 x.invoke,.int .i64 x.ret] 32)) 0 32 11 OpD.cells (.slice A n c) pre):=HO.out.ext HX2.out
 have HRX:Hid (Row1 ((W.alloc (.cells #[.int .i64 x.id,.int .i64 x.proc,.int .i64 x.object,.int .i64 x.kind,.int .i64 x.method,.int .i64 x.arg,.int .i64 x.second,.bool x.done,.int .i64 x.result,.int .i64 x.invoke,.int .i64 x.ret] 32)).alloc (.cells #[.int .i64 x.id,.int .i64 x.proc,.int .i64 x.object,.int .i64 x.kind,.int .i64 x.method,.int .i64 x.arg,.int .i64 x.second,.bool x.done,.int .i64 x.result,.int .i64 x.invoke,.int .i64 x.ret] 32)) bl 30 [.slice A n c]):=HR.out.ext HX2.out hbl
 have HP1:Hid (pre.length+1≤1000000000):=by unfold Hid;rw[HN.out];omega
 have HVL:=hD hvl
 go_wp2_with (at_builtin;go_loud (refine Z0t elOp Z2x Y1h rfl (.tmp 4) (.tmp 6) rfl (.slice A n c) pre rfl HOX.out (Nat.zero_le _) (W.heap.size+1) 1 x rfl (Row1.made' (by simp) _ x.cells) HP1.out (by decide) ?_;intro A4 c4 w4 hown4 hgr4 hwh4;rw[HLN.out]at hown4 hwh4 ⊢;have HR4:=HRX.out.grown hgr4 (fun e=>HVL.out e.symm);have v40:w4.cell? ⟨bl,0,none⟩=some (.slice A n c):=HR4.cell 0;have vf0:w4.frozen? ⟨bl,0,none⟩=false:=HR4.soft 0;have HR4:=hD HR4;have HO4:=hD hown4;have HG4:=hD hgr4;have HW4:=hD hwh4;clear hown4 hgr4 hwh4))
 go_ret
 refine⟨decide ((n:Int)+1<1000),?_,⟨fun i=>(G i∨W.heap.size≤i)∧i<(w4.setCell ⟨bl,0,none⟩ (.slice A4 (n+1) c4)).heap.size,?_⟩⟩
 ·try simp only[Int.natCast_add,Int.natCast_one]
  rfl
 ·have hw2:((W.alloc (.cells #[.int .i64 x.id,.int .i64 x.proc,.int .i64 x.object,.int .i64 x.kind,.int .i64 x.method,.int .i64 x.arg,.int .i64 x.second,.bool x.done,.int .i64 x.result,.int .i64 x.invoke,.int .i64 x.ret] 32)).alloc (.cells #[.int .i64 x.id,.int .i64 x.proc,.int .i64 x.object,.int .i64 x.kind,.int .i64 x.method,.int .i64 x.arg,.int .i64 x.second,.bool x.done,.int .i64 x.result,.int .i64 x.invoke,.int .i64 x.ret] 32)).heap.size=W.heap.size+2:=by simp
  have hG:∀k,(Value.slice A4 (n+1) c4).ownBlock=some k→(G k∨W.heap.size≤k)∧k≠bl:=fun k hk=>by
   rcases HW4.out k hk with q | q
   ·exact⟨.inl (HK.out k q),fun e=>HVL.out (e▸q)⟩
   ·rw[hw2]at q;exact⟨.inr (by omega),by omega⟩
  have ho:Only (fun i=>i=bl) w4 (w4.setCell ⟨bl,0,none⟩ (.slice A4 (n+1) c4)):=Only.setCell (F:=fun i=>i=bl) (p:=⟨bl,0,none⟩) Only.refl (.inl rfl) _
  have hr5:=HR4.out.set 0 (.slice A4 (n+1) c4)
  have ho5:=HO4.out.only ho (fun k hk=>(hG k hk).2)
  have hj:PJ bl (pre++ [x]) (fun i=>(G i∨W.heap.size≤i)∧i<(w4.setCell ⟨bl,0,none⟩ (.slice A4 (n+1) c4)).heap.size) (w4.setCell ⟨bl,0,none⟩ (.slice A4 (n+1) c4)):=by
   refine⟨⟨A4,c4,?_,?_,?_⟩,.inl HGL.out,hr5.lt⟩
   ·rw[HLN.out];exact ho5
   ·rw[HLN.out];exact hr5
   ·rw[HLN.out];exact fun k hk=>⟨(hG k hk).1,(ho5.lt k hk).2⟩
  refine⟨fun _=>hj,fun e=>⟨hj,?_⟩,⟨(((Only.of HX2.out).trans (Only.grown HG4.out) (fun i q=> .inl (HK.out i q))).setCell (p:=⟨bl,0,none⟩) (.inl HGL.out) _),fun i q=>q.1⟩,fun i q=>q.2⟩
  rw[HLN.out]
  have:=of_decide_eq_false e
  omega
end
end Go.Proofs.YtmiolpfanlpfnaaGreat
