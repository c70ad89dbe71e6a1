/- A tree's pages are told; a tree is dropped. Conditions: pages that bear a tree. -/
import Derived.Test.YtmiolpfanlpfnaaGreatT40
import Derived.Test.YtmiolpfanlpfnaaGreatT37
set_option maxRecDepth 100000
set_option maxHeartbeats 4000000
set_option linter.unusedSimpArgs false
set_option linter.unusedVariables false
namespace Go.Proofs.YtmiolpfanlpfnaaGreat
open Go.RowKit
theorem Y9t(P:List Nat):(Z7c P).length=P.length:=List.length_map _
theorem V6o{P:List Nat}{j b:Nat}(h:P[j]? =some b):(Z7c P)[j]?.getD 0=(b:Int):=by unfold Z7c;rw[List.getElem?_map,h];rfl
def U0b(S:StoreD)(i:Nat):TrD→StoreD
 | .no=>S
 | .yes d t=>Z6c (Z0o S i 0) (Z0a d t)
theorem X6d(S:StoreD){P:List Nat}{j b:Nat}(h:P[j]? =some b):Z6c S (P.take (j+1))=useP (Z6c S (P.take j)) b false:=by
 unfold Z6c
 rw[List.take_add_one,h]
 simp
theorem X1g{S:StoreD}{P:List Nat}{j b:Nat}(hf:FullV S)(hg:∀b∈P,Z0r S b)(hm:S.head.pages≤1024)(hn:P.Nodup)(h:P[j]? =some b):Z0r (Z6c S (P.take j)) b:=by
 have hb:=List.mem_of_getElem? h
 have h1:=Y3m (P.take j) hf (fun b q=>by have:=(hg b (List.mem_of_mem_take q)).2.1;omega)
 have h2:=hg b hb
 refine⟨h2.1,by rw[h1.head];exact h2.2.1,(h1.used _).2 ⟨.inl h2.2.2,fun q=> ?_⟩⟩
 obtain⟨hj,e⟩:=List.getElem?_eq_some_iff.1 h
 obtain⟨k,hk,e2⟩:=List.mem_iff_getElem.1 q
 rw[List.length_take]at hk
 rw[List.getElem_take]at e2
 exact(List.pairwise_iff_getElem.1 hn) k j (by omega) hj (by omega) (by rw[e2,e])
theorem X9b{tr p i:Nat}{F:Nat→Prop}{S:StoreD}(T:TrD)(w:World)(ht:Z0b w tr p i)(hnt:¬F tr)(h:PagerAt w p F S)(hi:i<16)(hf:Fm S)(hT:TrS S i T)(hd:T.fine):
  Calls Tryz.prog 225 #[.pointer (some ⟨tr,0,none⟩)] w fun e w'=>∃(A:Option Addr) (c:Nat) (F':Nat→Prop),e= .returned (.slice A T.pages.length c)∧OwnL w' 0 3 1 encN (.slice A T.pages.length c) (Z7c T.pages)∧(∀k,(Value.slice A T.pages.length c).ownBlock=some k→¬F' k)∧PagerAt w' p F' S∧Keeps F F' w w':=by
 have cL:=V4u T w ht hnt h hi hf hT hd
 clear ht hnt h hf hT hd
 go_enter Tryz.func225,Tryz.ntmps225
 go_wp2_with (go_at_call 273;(with_reducible refine cL.mono ?_);clear cL;rintro e w1 ⟨vb,A,n,c,mb,last,any,F1,rfl,hr,ho,hF,hp,hk⟩;have v1:w1.cell? ⟨vb,1,none⟩=some (.slice A n c):=hr.cell 1;have HO:=hD ho;have HF:=hD hF;have HP:=hD hp;have HK:=hD hk;clear hr ho hF hp hk)
 go_ret
 obtain⟨A',c',hv⟩:=OwnL.form HO.out
 injection hv with e1 e2 e3
 rw[Y9t]at e2
 subst e2
 exact⟨A,c,F1,rfl,HO.out,HF.out,HP.out,HK.out⟩
theorem V6c{tr p i:Nat}{F:Nat→Prop}{S:StoreD}(T:TrD)(w:World)(ht:Z0b w tr p i)(hnt:¬F tr)(h:PagerAt w p F S)(hi:i<16)(hf:Fm S)(hT:TrS S i T)(hd:T.fine):
  Calls Tryz.prog 185 #[.pointer (some ⟨tr,0,none⟩)] w fun e w'=>e= .returned (.int .i64 0)∧∃F',PagerAt w' p F' (U0b S i T)∧Keeps F F' w w':=by
 have cR:=Z3t w ht hnt h hi
 have cP:Hid (∀F1 W,PagerAt W p F1 S→Keeps F F1 w W→Calls Tryz.prog 225 #[.pointer (some ⟨tr,0,none⟩)] W fun e w'=>∃(A:Option Addr) (c:Nat) (F':Nat→Prop),e= .returned (.slice A T.pages.length c)∧OwnL w' 0 3 1 encN (.slice A T.pages.length c) (Z7c T.pages)∧(∀k,(Value.slice A T.pages.length c).ownBlock=some k→¬F' k)∧PagerAt w' p F' S∧Keeps F1 F' W w'):=fun F1 W q k=>X9b T W (k.only.row ht hnt) (k.out ht.lt hnt) q hi hf hT hd
 have HRW:Hid (∀F1 W,Keeps F F1 w W→Z0b W tr p i):=fun F1 W k=>k.only.row ht hnt
 have HI:=hD hi
 cases T with
 | no=>
   have hr0:Z1s S i=0:=hT
   rw[hr0]at cR
   clear ht hnt h hf hT hd cP hr0 hi
   go_enter Tryz.func185,Tryz.ntmps185
   go_wp2_with (go_at_call 132;(with_reducible refine cR.mono ?_);clear cR;rintro e w1 ⟨rfl,F1,hp1,hk1⟩;have HP1:=hD hp1;have HK1:=hD hk1;clear hp1 hk1)
   go_ret
   exact⟨rfl,F1,HP1.out,HK1.out⟩
 | yes d t=>
   obtain⟨y1,y2,y3,y4⟩:=hT
   rw[y1]at cR
   have hpos:=(Z0j d t y2 _ (Z0q d t)).1
   have HG:Hid (∀j b,(Z0a d t)[j]? =some b→Z0r (Z6c (Z0o S i 0) ((Z0a d t).take j)) b):=fun j b q=>by
    obtain⟨b1,hr1⟩:=Stp.setRoot (i:=i) (n:=0) (Stp.refl hf.full |>.mono (P':=fun _=>False) (fun _ q=>q)) hi (by omega)
    refine X1g b1.full (fun b r=> ?_) (by rw[b1.head];exact hf.most) y4 q
    have hg:=Z0j d t y2 b r
    exact⟨hg.1,by rw[b1.head];exact hg.2.1,(b1.used _).2 ⟨.inl hg.2.2,by simp⟩⟩
   rw[show TrD.pages (.yes d t)=Z0a d t from rfl]at cP
   show Calls _ _ _ _ fun e w'=>e= .returned (.int .i64 0)∧∃F',PagerAt w' p F' (Z6c (Z0o S i 0) (Z0a d t))∧Keeps F F' w w'
   have hlen:(Z0a d t).length≤1024:=Y6t y4 (fun b hb=>by have:=(Z0j d t y2 b hb).2.1;have:=hf.most;omega)
   clear ht hnt h hf hd y1 y2 y3 y4 hi
   generalize Z0a d t=P at *
   generalize atT d t=a at *
   have T1:((a:Int)==0)=false:=by simp;omega
   have T2:decide ((a:Int)=0)=false:=decide_eq_false (by omega)
   have T3:0<a:=by omega
   go_enter Tryz.func185,Tryz.ntmps185
   go_upto_region 5 with (first
    | (go_at_call 132;(with_reducible refine cR.mono ?_);clear cR;rintro e w1 ⟨rfl,F1,hp1,hk1⟩;have cP1:=cP.out _ _ hp1 hk1;have HK1:=hD hk1;clear hp1 hk1)
    | (go_at_call 225;(with_reducible refine cP1.mono ?_);clear cP1;rintro e w2 ⟨A,c,F2,rfl,ho2,hF2,hp2,hk2⟩;have HO2:=hD ho2;have HF2:=hD hF2;have HP2:=hD hp2;have HK2:=hD (Keeps.trans HK1.out hk2);clear ho2 hF2 hp2 hk2))
   have HR2:Hid (Z0b w2 tr p i):=HRW.out _ _ HK2.out
   have cSR:Hid (∀W,Ext w2 W→Calls Tryz.prog 178 #[.pointer (some ⟨p,0,none⟩),.int .i64 i,.int .i64 0] W fun e w'=>e= .returned (.int .i64 0)∧∃F',PagerAt w' p F' (Z0o S i 0)∧Keeps F2 F' W w'):=fun W hW=>Z5s i 0 W (HP2.out.ext hW) HI.out (.inl rfl)
   have HCD:Hid (∀(F':Nat→Prop) (W W' W'':World),Ext w2 W→Keeps F2 F' W W'→Ext W' W''→W''.cell? ⟨tr,0,none⟩=some (.pointer (some ⟨p,0,none⟩))∧W''.cell? ⟨tr,1,none⟩=some (.int .i64 (i:Int))):=fun F' W W' W'' hx hk hx2=>by
    have r1:=HRW.out _ _ (((HK2.out.ext hx).trans hk).ext hx2)
    exact⟨r1.cell 0,r1.cell 1⟩
   refine wp_region_held_drew (S:=fun W=>W.cell? ⟨tr,0,none⟩=some (.pointer (some ⟨p,0,none⟩))∧W.cell? ⟨tr,1,none⟩=some (.int .i64 (i:Int))) (by kernel_rfl) (HCD.out F2 w2 w2 _ (Ext.refl _) Keeps.refl (by exact Xt)) (fun hHeld=> ?_)
   refine' tk 0 ?_
   refine' tk 1 ?_
   refine' tk 2 ?_
   refine' tk 3 ?_
   refine' tk 4 ?_
   refine' tk 5 ?_
   refine' tk 6 ?_
   refine' tk 7 ?_
   refine stp 8 (fun K hK=> ?_);go_simp
   (with_reducible refine(cSR.out _ ?_).mono ?_)
   ·exact Xt
   rintro e w3 ⟨rfl,F3,hp3,hk3⟩
   have HP3:=hD hp3
   have HK3:=hD hk3
   clear hp3 hk3
   (try dsimp only)
   (try go_simp)
   refine hK.out _ _ (HCD.out _ _ _ _ (Below.drew (Ext.refl _)) HK3.out (Ext.refl _)) (fun hHeld=> ?_)
   clear hK K
   refine pt ?_
   refine' tk 9 ?_
   refine wpAnyH_done (by kernel_rfl) ?_ _
   have hk3:Keeps F2 F3 w2 w3:=(Keeps.of (Below.drew (Ext.refl _))).trans HK3.out
   have HO3:Hid (OwnL w3 0 3 1 encN (.slice A P.length c) (Z7c P)):=HO2.out.only hk3.only HF2.out
   have HF3:Hid (∀k,(Value.slice A P.length c).ownBlock=some k→¬F3 k):=fun k q=>hk3.out (HO2.out.lt k q).2 (HF2.out k q)
   have HK23:=hD (HK2.out.trans hk3)
   clear hk3 HO2 HF2 HK3 HCD cSR HR2 HK1 cP
   go_wp2_with fail
   go_loopw [38] (fun x wr=>∃(j:Nat) (Fr:Nat→Prop),j≤P.length∧x= .int .i64 j∧Hid (PagerAt wr p Fr (Z6c (Z0o S i 0) (P.take j))∧Keeps F3 Fr w3 wr)) (fun x _=>P.length-(intOf x).toNat)
   case atStart=>exact⟨0,F3,Nat.zero_le _,rfl,hD ⟨HP3.out,Keeps.refl⟩⟩
   case round=>
    obtain⟨j,Fr,hj,rfl,HR⟩:=hrel
    by_cases hjn:j<P.length
    ·have q2:decide ((j:Int)<(P.length:Int))=true:=decide_eq_true (by omega)
     have q2':(j:Int)<(P.length:Int):=by omega
     obtain⟨b,hb⟩:∃b,P[j]? =some b:=⟨_,List.getElem?_eq_getElem hjn⟩
     have hor:=HO3.out.only HR.out.2.only HF3.out
     obtain⟨g,c',hv,hgl,hgc⟩:=Z6b hor j (by rw[Y9t];exact hjn)
     rw[V6o hb]at hgc
     injection hv with e1 e2 e3
     subst e1 e3
     have cF:=Y2t b wr HR.out.1 (HG.out j b hb)
     rw[←X6d _ hb]at cF
     have t0:wr.cell? ⟨tr,0,none⟩=some (.pointer (some ⟨p,0,none⟩)):=(HRW.out _ _ (HK23.out.trans HR.out.2)).cell 0
     clear e2 hb hor
     go_wp2_with (go_at_call 187;(with_reducible refine cF.mono ?_);clear cF;rintro e w5 ⟨rfl,F5,hp5,hk5⟩;have HP5:=hD hp5;have HK5:=hD hk5;clear hp5 hk5)
     go_roundw
     case rel=>exact⟨j+1,F5,by omega,rfl,hD ⟨HP5.out,HR.out.2.trans HK5.out⟩⟩
     case measure=>simp[intOf];omega
    ·have q2:decide ((j:Int)<(P.length:Int))=false:=decide_eq_false (by omega)
     have q2':¬(j:Int)<(P.length:Int):=by omega
     have hjp:j=P.length:=by omega
     have HR':Hid (PagerAt wr p Fr (Z6c (Z0o S i 0) P)∧Keeps F3 Fr w3 wr):=by
      have:=HR.out
      rw[hjp,List.take_length]at this
      exact this
     clear hjp
     go_wp2_with fail
     go_ret
     exact⟨rfl,Fr,HR'.out.1,HK23.out.trans HR'.out.2⟩
theorem V3a{tr p i:Nat}{F:Nat→Prop}{S:StoreD}(T:TrD)(k:ByteArray)(w:World)(ht:Z0b w tr p i)(hnt:¬F tr)(h:PagerAt w p F S)(hf:Fm S)(hi:i<16)(hT:TrS S i T)(hd:T.fine)(hk:∃x∈T.list,x.1=k):
  Calls Tryz.prog 124 #[.pointer (some ⟨tr,0,none⟩),.string k] w fun e w'=>e= .returned (.int .i64 0)∧∃(S':StoreD) (T':TrD) (F':Nat→Prop),Z9p S i k S' T' T∧PagerAt w' p F' S'∧Keeps F F' w w':=by
 cases T with
 | no=>obtain⟨x,hx,_⟩:=hk;cases hx
 | yes d t=>exact V6d t k w ht hnt h hf hi hT hk hd (fun S1 t1 W F1 _ _ y1 y2 y3 y4 y5=>V6c (.yes d t1) W y3 y4 y5 hi y2 y1 hd)
theorem V0y{l:List OpD}(h:l.Pairwise (fun a b=>a.id≠b.id)){o:OpD}(ho:o∈l):getL l o.id=some o:=by
 cases hg:getL l o.id with
 | none=>
   unfold getL at hg
   have:=List.find?_eq_none.1 hg o ho
   simp at this
 | some x=>
   unfold getL at hg
   have h1:x.id=o.id:=by have:=List.find?_some hg;simpa using this
   rw[X1b h (List.mem_of_find?_eq_some hg) ho h1]
def Z3u(Ts:Nat→TrD):Nat→Nat
 | 0=>0
 | k+1=>Z3u Ts k+(Ts k).pages.length
theorem Y8r{Ts Ts':Nat→TrD}{k:Nat}(h:∀i,i<k→Ts' i=Ts i):Z3u Ts' k=Z3u Ts k:=by
 induction k with
 | zero=>rfl
 | succ k ih=>rw[Z3u,Z3u,ih (fun i hi=>h i (by omega)),h k (by omega)]
structure DelK (tb p:Nat) (ts:Nat→Nat) (Ts0:Nat→TrD) (L:Nat→List OpD) (o:OpD) (R:Nat) (F0:Nat→Prop) (w:World) (k:Nat) (wr:World) (S:StoreD) (Ts:Nat→TrD) (F:Nat→Prop):Prop where
 at_:TblAt wr tb p ts F
 pag:PagerAt wr p F S
 keep:Keeps F0 F w wr
 tab:Tab S Ts (fun i=>if i<k then delO (L i) o.id else L i)
 done:∀i,i<k→∃Sa Sb,Fm Sa∧TrS Sa i (Ts0 i)∧(∃x∈(Ts0 i).list,x.1=wayK i o)∧Z9p Sa i (wayK i o) Sb (Ts i) (Ts0 i)
 same:∀i,k≤i→Ts i=Ts0 i
 dep:∀i,depT (Ts i)≤depT (Ts0 i)
 less:∀i,(Ts i).pages.length≤(Ts0 i).pages.length
 room:R+Z3u Ts0 k=Z0z S+Z3u Ts k
theorem DelK.step{tb p:Nat}{ts:Nat→Nat}{Ts0:Nat→TrD}{L:Nat→List OpD}{o:OpD}{R:Nat}{F0 F F':Nat→Prop}{w wr w':World}{k:Nat}{S S':StoreD}{Ts:Nat→TrD}{T':TrD}(h:DelK tb p ts Ts0 L o R F0 w k wr S Ts F)(hk:k<5)(ho:o∈L k)
 (hp:Z9p S k (wayK k o) S' T' (Ts k))(hp':PagerAt w' p F' S')(hkp:Keeps F F' wr w'):DelK tb p ts Ts0 L o R F0 w (k+1) w' S' (updF Ts k T') F':=by
 obtain⟨h1,h2,h3,h4⟩:=h.tab.delR hk (by rw[if_neg (Nat.lt_irrefl _)];exact ho) hp
 have hs:=h.same k (Nat.le_refl _)
 refine⟨h.at_.keep hkp,hp',h.keep.trans hkp,h1.congr (fun i _=>rfl) (fun i _=> ?_),fun i hi=> ?_,fun i hi=> ?_,fun i=> ?_,fun i=> ?_,?_⟩
 ·by_cases e:i=k
  ·subst e;rw[Z0w,if_pos (by omega),if_neg (by omega)]
  ·rw[Z0p _ _ e]
   by_cases hl:i<k
   ·rw[if_pos hl,if_pos (by omega)]
   ·rw[if_neg hl,if_neg (by omega)]
 ·by_cases e:i=k
  ·subst e
   rw[Z0w]
   exact⟨S,S',h.tab.fm,hs▸h.tab.tr i hk,hs▸⟨_,(h.tab.mem i hk _).2 ⟨o,by rw[if_neg (Nat.lt_irrefl _)];exact ho,rfl⟩,rfl⟩,hs▸hp⟩
  ·rw[Z0p _ _ e];exact h.done i (by omega)
 ·rw[Z0p _ _ (by omega)];exact h.same i (by omega)
 ·by_cases e:i=k
  ·subst e;rw[Z0w,←hs];exact h3
  ·rw[Z0p _ _ e];exact h.dep i
 ·by_cases e:i=k
  ·subst e;rw[Z0w,←hs];exact h4
  ·rw[Z0p _ _ e];exact h.less i
 ·have:=h.room
  have e1:Z3u (updF Ts k T') k=Z3u Ts k:=Y8r (fun i hi=>Z0p _ _ (by omega))
  show R+(Z3u Ts0 k+(Ts0 k).pages.length)=Z0z S'+(Z3u (updF Ts k T') k+(updF Ts k T' k).pages.length)
  rw[Z0w,e1]
  rw[hs]at h2
  omega
theorem Y2v{Ts Ts':Nat→TrD}(h:∀i,(Ts' i).pages.length≤(Ts i).pages.length):∀k,Z3u Ts' k≤Z3u Ts k
 | 0=>Nat.le_refl _
 | k+1=>by
   have h1:=Y2v h k
   have h2:=h k
   show Z3u Ts' k+(Ts' k).pages.length≤Z3u Ts k+(Ts k).pages.length
   omega
theorem Y5c{Ts Ts':Nat→TrD}(h:∀i,depT (Ts' i)≤depT (Ts i)):∀k,Z4n Ts' k≤Z4n Ts k
 | 0=>Nat.le_refl _
 | k+1=>by
   have h1:=Y5c h k
   have h2:=h k
   show Z4n Ts' k+(Ts' k).need≤Z4n Ts k+(Ts k).need
   rw[Y1u,Y1u]
   omega
structure DelB (S0:StoreD) (Ts0:Nat→TrD) (l:List OpD) (id:Int) (S:StoreD) (Ts:Nat→TrD):Prop where
 tab:Tab S Ts (fun _=>delO l id)
 dep:∀i,depT (Ts i)≤depT (Ts0 i)
 less:∀i,(Ts i).pages.length≤(Ts0 i).pages.length
 room:Z0z S0+Z3u Ts0 5=Z0z S+Z3u Ts 5
 done:(Ts=Ts0∧getL l id=none)∨∃o,getL l id=some o∧∀i,i<5→∃Sa Sb,Fm Sa∧TrS Sa i (Ts0 i)∧(∃x∈(Ts0 i).list,x.1=wayK i o)∧Z9p Sa i (wayK i o) Sb (Ts i) (Ts0 i)
theorem DelB.more{S0 S:StoreD}{Ts0 Ts:Nat→TrD}{l:List OpD}{id:Int}(h:DelB S0 Ts0 l id S Ts):Z0z S0≤Z0z S∧Z4n Ts 5≤Z4n Ts0 5:=by
 have h1:=h.room
 have h2:=Y2v h.less 5
 exact⟨by omega,Y5c h.dep 5⟩
theorem V1v{l:List OpD}{id:Int}(h:getL l id=none):delO l id=l:=by
 unfold getL at h
 rw[List.find?_eq_none]at h
 unfold delO
 rw[List.filter_eq_self]
 intro x hx
 have:=h x hx
 simpa using this
def delE(l:List OpD)(id:Int):Int:=if(getL l id).isSome then 0 else 6
structure PutB (S0:StoreD) (Ts0:Nat→TrD) (l:List OpD) (o:OpD) (S:StoreD) (Ts:Nat→TrD):Prop where
 tab:Tab S Ts (fun _=>o::delO l o.id)
 via:∃S1 Ts1,DelB S0 Ts0 l o.id S1 Ts1∧(∀i,i<5→V9h i o (Ts1 i) (Ts i))∧Z0z S1≤Z0z S+Z4n Ts1 5
theorem Ris.ids{l:List OpD}(h:Ris l):l.Pairwise (fun a b=>a.id≠b.id):=h.imp (fun q e=>by omega)
theorem V7j{l:List OpD}(h:Ris l)(o x:OpD):x∈wiO l o↔x=o∨(x∈l∧x.id≠o.id):=by
 rw[X7c]
 have ht:∀x∈l.takeWhile (fun x=>decide (x.id<o.id)),x.id<o.id:=fun x hx=>by
  have:=List.all_takeWhile (p:=fun x:OpD=>decide (x.id<o.id)) (l:=l)
  rw[List.all_eq_true]at this
  exact of_decide_eq_true (this x hx)
 have hl:x∈l↔x∈l.takeWhile (fun x=>decide (x.id<o.id))∨x∈l.dropWhile (fun x=>decide (x.id<o.id)):=by
  rw[←List.mem_append,List.takeWhile_append_dropWhile]
 rw[List.mem_append,List.mem_append,List.mem_singleton,List.mem_filter,hl]
 constructor
 ·rintro((h1 | h1) | ⟨h1,h2⟩)
  ·exact .inr ⟨.inl h1,by have:=ht x h1;omega⟩
  ·exact .inl h1
  ·exact .inr ⟨.inr h1,by simpa using h2⟩
 ·rintro(h1 | ⟨h1 | h1,h2⟩)
  ·exact .inl (.inr h1)
  ·exact .inl (.inl h1)
  ·exact .inr ⟨h1,by simpa using h2⟩
theorem V6f{l:List OpD}(h:Ris l)(id:Int):Ris (delO l id):=List.Pairwise.filter _ h
theorem Tab.list{S:StoreD}{Ts:Nat→TrD}{l r:List OpD}(h:Tab S Ts (fun _=>l))(hr:Ris r)(hm:∀x,x∈r↔x∈l):Tab S Ts (fun _=>r):=
 ⟨h.fm,h.tr,h.disj,fun i hi o ho=>h.ok i hi o ((hm o).1 ho),fun _ _=>hr.ids,fun i hi x=>(h.mem i hi x).trans ⟨fun ⟨o,q1,q2⟩=>⟨o,(hm o).2 q1,q2⟩,fun⟨o,q1,q2⟩=>⟨o,(hm o).1 q1,q2⟩⟩⟩
theorem PutB.list{S0 S:StoreD}{Ts0 Ts:Nat→TrD}{l:List OpD}{o:OpD}(h:PutB S0 Ts0 l o S Ts)(hr:Ris l):Tab S Ts (fun _=>wiO l o):=
 h.tab.list (X7b l o hr) (fun x=>by rw[V7j hr,List.mem_cons,Z9l])
def allD:TrD→List ByteArray
 | .no=> []
 | .yes d t=>allT d t
def Slim(T:TrD):Prop:=∀x∈allD T,x.size≤24
def potT:TrD→Nat
 | .no=>0
 | .yes 0 _=>1
 | .yes (d+1) t=>1+9*d+min (InT.keys t).length 9
theorem X2z(T:TrD):9*T.need≤potT T+26:=by
 cases T with
 | no=>show 9*1≤0+26;omega
 | yes d t=>
   cases d with
   | zero=>show 9*2≤1+26;omega
   | succ d=>show 9*(d+1+2)≤1+9*d+min _ 9+26;omega
theorem Y2q{d:Nat}{S S':StoreD}{t t':TT (d+1)}{k v:ByteArray}{o:Option (ByteArray×TT (d+1))}(h:PutR (d+1) S t k v S' t' o)(hf:Fm S)(hon:onT S (d+1) t)(hok:okT (d+1) t)(hk:Z3d k)(hv:v.size≤80)(hnd:(Z0a (d+1) t).Nodup)(hk24:k.size≤24)(hs:∀x∈allT (d+1) t,x.size≤24):
  (o=none→(InT.keys t').length≤(InT.keys t).length+1)∧(o≠none→9≤(InT.keys t).length):=by
 obtain⟨c,hc,S1,c',o1,h1,h2⟩:=h
 have hcm:c∈InT.kids t:=List.mem_of_getElem? hc
 obtain⟨F1,q⟩:=Z4w d h1 hf (hon.2 c hcm) (hok.2.2.2.1 c hcm) hk hv ((Z1c hnd).1 c hcm).2
 have hsk:∀x∈InT.keys t,x.size≤24:=fun x hx=>hs x (List.mem_append_left _ hx)
 have hsc:∀x∈allT d c,x.size≤24:=fun x hx=>hs x (List.mem_append_right _ (List.mem_flatMap.2 ⟨c,hcm,hx⟩))
 have hkl:=hok.2.1
 cases o1 with
 | none=>
   obtain⟨_,rfl,rfl⟩:=h2
   exact⟨fun _=>Nat.le_succ _,fun q=>absurd rfl q⟩
 | some x=>
   have hx24:x.1.size≤24:=by
    rcases(q.right x.1 x.2 rfl).key with e | e
    ·rw[e];exact hk24
    ·exact hsc _ e
   obtain⟨y,hcd,hy⟩:=h2
   have hlen:(insL (InT.keys t) (Z0g (InT.keys t) k) x.1).length=(InT.keys t).length+1:=Z1b _ _ _
   cases y with
   | none=>
     obtain⟨rfl,rfl⟩:=hy
     exact⟨fun _=>Nat.le_of_eq hlen,fun q=>absurd rfl q⟩
   | some y=>
     obtain⟨m,r⟩:=y
     obtain⟨mid,_,rfl,rfl⟩:=hy
     refine⟨(fun q=>by cases q),fun _=> ?_⟩
     have hbig:256<Z0m (Z0c (d+1) (InT.mk (InT.at_ t) (insL (InT.keys t) (Z0g (InT.keys t) k) x.1) (insL ((InT.kids t).set (Z0g (InT.keys t) k) c') (Z0g (InT.keys t) k+1) x.2))):=hcd.1
     have hsz:Z0m (Z0c (d+1) (InT.mk (InT.at_ t) (insL (InT.keys t) (Z0g (InT.keys t) k) x.1) (insL ((InT.kids t).set (Z0g (InT.keys t) k) c') (Z0g (InT.keys t) k+1) x.2)))=2+2*((insL ((InT.kids t).set (Z0g (InT.keys t) k) c') (Z0g (InT.keys t) k+1) x.2).map (fun c=>(atT d c:Int))).length+Z0n (insL (InT.keys t) (Z0g (InT.keys t) k) x.1)+Z0n []:=rfl
     rw[hsz,List.length_map,Z1b,List.length_set,hkl]at hbig
     have hm:=Z3j (l:=insL (InT.keys t) (Z0g (InT.keys t) k) x.1) (q:=24) (fun y hy=>by
      rcases Z7m hy with e | e
      ·rw[e];exact hx24
      ·exact hsk y e)
     rw[hlen]at hm
     have:Z0n []=0:=rfl
     omega
theorem V7z{S S':StoreD}{i:Nat}{k v:ByteArray}{T T':TrD}(h:Y1j S i k v S' T' T)(hf:Fm S)(ht:TrS S i T)(hk:Z3d k)(hv:v.size≤80)(hk24:k.size≤24)(hs:Slim T):potT T'≤potT T+1∧Slim T':=by
 cases T with
 | no=>
   obtain⟨a,_,_,rfl⟩:=h
   refine⟨Nat.le_refl _,fun x hx=> ?_⟩
   have:x∈ [k]:=hx
   rw[List.mem_singleton]at this
   rw[this];exact hk24
 | yes d t=>
   obtain⟨_,hon,hok,hnd⟩:=ht
   obtain⟨S1,t',o,h1,h2⟩:=h
   obtain⟨F,q⟩:=Z4w d h1 hf hon hok hk hv hnd
   have hA:∀x,(x=k∨x∈allT d t)→x.size≤24:=fun x hx=>by
    rcases hx with e | e
    ·rw[e];exact hk24
    ·exact hs x e
   cases o with
   | none=>
     obtain⟨_,rfl⟩:=h2
     refine⟨?_,fun x hx=>hA x (q.all x hx)⟩
     cases d with
     | zero=>show 1≤1+1;omega
     | succ d=>
       have:=(Y2q h1 hf hon hok hk hv hnd hk24 hs).1 rfl
       show 1+9*d+min (InT.keys t').length 9≤1+9*d+min (InT.keys t).length 9+1
       omega
   | some x=>
     obtain⟨mid,r⟩:=x
     obtain⟨top,_,_,rfl⟩:=h2
     have hR:=q.right mid r rfl
     refine⟨?_,fun y hy=> ?_⟩
     ·show 1+9*d+min 1 9≤_
      cases d with
      | zero=>show 1+9*0+min 1 9≤1+1;omega
      | succ d=>
        have:=(Y2q h1 hf hon hok hk hv hnd hk24 hs).2 (by intro e;cases e)
        show 1+9*(d+1)+min 1 9≤1+9*d+min (InT.keys t).length 9+1
        omega
     ·have hy':y∈ [mid]++ [t',r].flatMap (allT d):=hy
      rw[List.mem_append,List.mem_singleton,List.mem_flatMap]at hy'
      rcases hy' with e | ⟨z,hz,e⟩
      ·rw[e];exact hA _ hR.key
      ·rcases List.mem_cons.1 hz with rfl | hz
       ·exact hA _ (q.all y e)
       ·rw[List.mem_singleton]at hz
        subst hz
        exact hA _ (hR.all y e)
theorem X8c(i:Nat):∀(d:Nat) {S S':StoreD} {t:TT d} {T':TrD},ShrR i d S t S' T'→potT T'≤potT (.yes d t)∧∀x∈allD T',x∈allT d t
 | 0,_,_,_,_,h=>by
   obtain⟨_,rfl⟩:=h
   exact⟨Nat.le_refl _,fun x hx=>hx⟩
 | d+1,_,_,t,_,h=>by
   rcases h with ⟨_,_,rfl⟩ | ⟨c,hc,h⟩
   ·exact⟨Nat.le_refl _,fun x hx=>hx⟩
   ·obtain⟨h1,h2⟩:=X8c i d h
    refine⟨Nat.le_trans h1 ?_,fun x hx=> ?_⟩
    ·cases d with
     | zero=>show 1≤1+9*0+_;omega
     | succ d=>show 1+9*d+min _ 9≤1+9*(d+1)+min _ 9;omega
    ·show x∈InT.keys t++(InT.kids t).flatMap (allT d)
     rw[hc]
     exact List.mem_append_right _ (List.mem_flatMap.2 ⟨c,List.mem_singleton.2 rfl,h2 x hx⟩)
theorem X7u{d:Nat}{S S':StoreD}{t t':TT (d+1)}{k:ByteArray}(h:Y1i (d+1) S t k S' t'):(InT.keys t').length≤(InT.keys t).length:=by
 obtain⟨c,_,S1,c',_,h⟩:=h
 rcases h with ⟨_,_,rfl⟩ | ⟨_,a,b,s,_,_,_,⟨_,_,rfl⟩ | ⟨_,_,rfl⟩⟩
 ·exact Nat.le_refl _
 ·exact Nat.le_refl _
 ·exact List.length_eraseIdx_le _ _
theorem V8a{S S':StoreD}{i:Nat}{k:ByteArray}{T T':TrD}(h:Z9p S i k S' T' T)(hf:Fm S)(ht:TrS S i T)(hk:∃x∈T.list,x.1=k)(hs:Slim T):potT T'≤potT T∧Slim T':=by
 cases T with
 | no=>exact h.elim
 | yes d t=>
   obtain⟨_,hon,hok,hnd⟩:=ht
   obtain⟨S1,t1,htk,h⟩:=h
   obtain⟨G1,hl⟩:=Z6j d htk hf hon hok ((Z9g d t hok k).2 hk) hnd
   rcases h with ⟨_,_,rfl⟩ | ⟨_,h⟩
   ·exact⟨Nat.zero_le _,fun x hx=>by cases hx⟩
   ·obtain⟨h1,h2⟩:=X8c i d h
    refine⟨Nat.le_trans h1 ?_,fun x hx=>hs x (hl.all x (h2 x hx))⟩
    cases d with
    | zero=>exact Nat.le_refl _
    | succ d=>
      have:=X7u htk
      show 1+9*d+min (InT.keys t1).length 9≤1+9*d+min (InT.keys t).length 9
      omega
def Y1g:Nat→Nat
 | 0=>0
 | t+1=>Y1g t+5*((t+26)/9)
theorem Z9v:∀ {a b:Nat},a≤b→Y1g a≤Y1g b
 | a,0,h=>by rw[Nat.le_zero.1 h];exact Nat.le_refl _
 | a,b+1,h=>by
   by_cases e:a=b+1
   ·rw[e];exact Nat.le_refl _
   ·have:=Z9v (show a≤b by omega)
    show Y1g a≤Y1g b+_
    omega
structure TabI (c:Nat) (S:StoreD) (Ts:Nat→TrD) (l:List OpD) (t:Nat):Prop where
 tab:Tab S Ts (fun _=>l)
 ris:Ris l
 pot:∀i,i<5→potT (Ts i)≤t
 slim:∀i,i<5→Slim (Ts i)
 room:c≤Z0z S+Y1g t
theorem Y3f{Ts:Nat→TrD}{t:Nat}(h:∀i,i<5→potT (Ts i)≤t):∀k,k≤5→Z4n Ts k≤k*((t+26)/9)
 | 0,_=>Nat.zero_le _
 | k+1,hk=>by
   have h1:=Y3f h k (by omega)
   have h2:=X2z (Ts k)
   have h3:=h k (by omega)
   have h4:(Ts k).need≤(t+26)/9:=by omega
   show Z4n Ts k+(Ts k).need≤_
   rw[Nat.succ_mul]
   omega
theorem TabI.dep{c:Nat}{S:StoreD}{Ts:Nat→TrD}{l:List OpD}{t:Nat}(h:TabI c S Ts l t)(ht:t≤40)(i:Nat)(hi:i<5):depT (Ts i)≤31:=by
 have h1:=X2z (Ts i)
 have h2:=h.pot i hi
 rw[Y1u]at h1
 omega
theorem TabI.enough{c:Nat}{S:StoreD}{Ts:Nat→TrD}{l:List OpD}{t:Nat}(h:TabI c S Ts l t)(ht:Y1g (t+1)≤c):Z4n Ts 5≤Z0z S:=by
 have h1:=Y3f h.pot 5 (Nat.le_refl _)
 have h4:Y1g (t+1)=Y1g t+5*((t+26)/9):=rfl
 have h5:=h.room
 omega
theorem TabI.more{c:Nat}{S:StoreD}{Ts:Nat→TrD}{l:List OpD}{t u:Nat}(h:TabI c S Ts l t)(hu:t≤u):TabI c S Ts l u:=
 ⟨h.tab,h.ris,fun i hi=>Nat.le_trans (h.pot i hi) hu,h.slim,by have:=Z9v hu;have:=h.room;omega⟩
theorem DelB.pot{S0 S:StoreD}{Ts0 Ts:Nat→TrD}{l:List OpD}{id:Int}{i:Nat}(h:DelB S0 Ts0 l id S Ts)(hi:i<5)(hs:Slim (Ts0 i)):potT (Ts i)≤potT (Ts0 i)∧Slim (Ts i):=by
 rcases h.done with ⟨rfl,_⟩ | ⟨o,_,hd⟩
 ·exact⟨Nat.le_refl _,hs⟩
 ·obtain⟨Sa,Sb,q1,q2,q3,q4⟩:=hd i hi
  exact V8a q4 q1 q2 q3 hs
theorem TabI.del{c:Nat}{S0 S:StoreD}{Ts0 Ts:Nat→TrD}{l:List OpD}{id:Int}{t:Nat}(h:TabI c S0 Ts0 l t)(hb:DelB S0 Ts0 l id S Ts):TabI c S Ts (delO l id) t:=
 ⟨hb.tab,V6f h.ris id,fun i hi=>Nat.le_trans (hb.pot hi (h.slim i hi)).1 (h.pot i hi),fun i hi=>(hb.pot hi (h.slim i hi)).2,by have:=hb.more.1;have:=h.room;omega⟩
theorem X7d(i:Nat)(o:OpD):(wayK i o).size≤24:=by
 unfold wayK
 rw[Z0h,Z3p]
 have:=Y1l i o
 omega
theorem TabI.put{c:Nat}{S0 S:StoreD}{Ts0 Ts:Nat→TrD}{l:List OpD}{o:OpD}{t:Nat}(h:TabI c S0 Ts0 l t)(ho:Z2c o=0)(hb:PutB S0 Ts0 l o S Ts):TabI c S Ts (wiO l o) (t+1):=by
 obtain⟨S1,Ts1,hd,hp,hr⟩:=hb.via
 have h1:=h.del hd
 have hpt:∀i,i<5→potT (Ts i)≤potT (Ts1 i)+1∧Slim (Ts i):=fun i hi=>by
  obtain⟨Sa,Sb,q1,q2,q3⟩:=hp i hi
  exact V7z q3 q1 q2 (Y2d i o) (Z8w i (OpIn.of ho)) (X7d i o) (h1.slim i hi)
 refine⟨hb.list h.ris,X7b l o h.ris,fun i hi=> ?_,fun i hi=>(hpt i hi).2,?_⟩
 ·have:=(hpt i hi).1
  have:=h1.pot i hi
  omega
 ·have h2:=Y3f h1.pot 5 (Nat.le_refl _)
  have h3:=h1.room
  show c≤Z0z S+(Y1g t+5*((t+26)/9))
  omega
structure Soil (n:Nat) (C S:StoreD):Prop where
 same:S= { C with dirty:=S.dirty}
 list:∃L:List Nat,L.length≤n∧∀b:Nat,2≤b→(S.dirty (b:Int)≠none∨Z0y S b=true)→b∈L
theorem Soil.big{n m i:Nat}{P:Nat→Prop}{F G:List Nat}{C S S':StoreD}(h:Soil n C S)(hb:Big i P F G S S')(hP:∀b,P b→Z0y S b=true)(hF:F.length≤m):Soil (n+m) C S':=by
 obtain⟨L,hL,h1⟩:=h.list
 refine⟨by rw[hb.same,h.same],L++F,by rw[List.length_append];omega,fun b h2 hq=> ?_⟩
 rw[List.mem_append]
 rcases hq with q | q
 ·rcases hb.dirt b h2 q with q | q | q
  ·exact .inl (h1 b h2 (.inl q))
  ·exact .inl (h1 b h2 (.inr (hP b q)))
  ·exact .inr q
 ·rcases((hb.used b).1 q).1 with q | q
  ·exact .inl (h1 b h2 (.inr q))
  ·exact .inr q
theorem Soil.more{n m:Nat}{C S:StoreD}(h:Soil n C S)(hm:n≤m):Soil m C S:=
 ⟨h.same,let ⟨L,h1,h2⟩:=h.list;⟨L,Nat.le_trans h1 hm,h2⟩⟩
theorem Soil.del{n i:Nat}{k:ByteArray}{C S S':StoreD}{T T':TrD}(h:Soil n C S)(hi:i<16)(hp:Z9p S i k S' T' T)(hf:Fm S)(ht:TrS S i T)(hk:∃x∈T.list,x.1=k):Soil n C S':=by
 obtain⟨G,hl⟩:=Y9p hi hp hf ht hk
 exact h.big hl.big (fun b q=>(ht.given b q).2.2) (Nat.le_refl 0)
theorem V5x{α β:Type}(f:α→List β)(l:List α)(i:Nat)(x:α):((insL l i x).flatMap f).length=(l.flatMap f).length+(f x).length:=by
 unfold insL
 conv=>rhs;rw[←List.take_append_drop i l]
 simp only[List.flatMap_append,List.flatMap_cons,List.length_append]
 omega
theorem V5w{α β:Type}(f:α→List β)(l:List α){j:Nat}{c c':α}(hc:l[j]? =some c):((l.set j c').flatMap f).length+(f c).length=(l.flatMap f).length+(f c').length:=by
 obtain⟨hj,rfl⟩:=List.getElem?_eq_some_iff.1 hc
 rw[Z6y f l hj,Z5w f l hj]
 simp only[List.length_append]
 omega
theorem X5g:∀(d:Nat) {S S':StoreD} {t t':TT d} {k v:ByteArray} {o:Option (ByteArray×TT d)},PutR d S t k v S' t' o→Fm S→onT S d t→okT d t→Z3d k→v.size≤80→(Z0a d t).Nodup→o=none→(Z0a d t').length≤(Z0a d t).length+d
 | 0,_,_,_,_,_,_,_,_,_,_,_,_,_,_,_=>Nat.le_refl 1
 | d+1,S,S',t,t',k,v,o,h,hf,hon,hok,hk,hv,hnd,ho=>by
   obtain⟨c,hc,S1,c',o1,h1,h2⟩:=h
   have hcm:c∈InT.kids t:=List.mem_of_getElem? hc
   obtain⟨F1,q⟩:=Z4w d h1 hf (hon.2 c hcm) (hok.2.2.2.1 c hcm) hk hv ((Z1c hnd).1 c hcm).2
   have hl:=q.pages.length_eq
   have hq:F1.length≤d+1:=q.len
   rw[List.length_append,List.length_append]at hl
   have hp:∀x:TT (d+1),(Z0a (d+1) x).length=((InT.kids x).flatMap (Z0a d)).length+1:=fun x=>rfl
   have hs:=V5w (Z0a d) (InT.kids t) (c':=c') hc
   rw[hp,hp]
   cases o1 with
   | none=>
     obtain⟨_,rfl,_⟩:=h2
     have e:(Z7w d none).length=0:=rfl
     show((InT.kids t).set _ c' |>.flatMap (Z0a d)).length+1≤_
     omega
   | some x=>
     obtain⟨y,_,hy⟩:=h2
     cases y with
     | some y=>
       obtain⟨mid,_,_,e⟩:=hy
       rw[ho]at e
       cases e
     | none=>
       obtain⟨rfl,_⟩:=hy
       have e:(Z7w d (some x)).length=(Z0a d x.2).length:=rfl
       have hi:=V5x (Z0a d) ((InT.kids t).set (Z0g (InT.keys t) k) c') (Z0g (InT.keys t) k+1) x.2
       show((insL ((InT.kids t).set _ c') _ x.2).flatMap (Z0a d)).length+1≤_
       omega
def Y3l(T:TrD):Nat:=(potT T+17)/9
theorem X4x{S S':StoreD}{i:Nat}{k v:ByteArray}{T T':TrD}(hi:i<16)(h:Y1j S i k v S' T' T)(hf:Fm S)(ht:TrS S i T)(hk:Z3d k)(hv:v.size≤80)(hk24:k.size≤24)(hs:Slim T):∃F,PutTL S i T k v S' T' F∧F.length≤Y3l T:=by
 obtain⟨F,hl⟩:=Y8o hi h hf ht hk hv
 refine⟨F,hl,?_⟩
 have hp:=hl.pages.length_eq
 rw[List.length_append]at hp
 unfold Y3l
 cases T with
 | no=>
   obtain⟨a,_,_,rfl⟩:=h
   have e1:(TrD.pages (.yes 0 (LeafT.mk a [k] [v]))).length=1:=rfl
   have e2:(TrD.pages .no).length=0:=rfl
   have e3:potT .no=0:=rfl
   omega
 | yes d t=>
   obtain⟨_,hon,hok,hnd⟩:=ht
   obtain⟨S1,t',o,h1,h2⟩:=h
   obtain⟨F1,q⟩:=Z4w d h1 hf hon hok hk hv hnd
   have hl1:=q.pages.length_eq
   have hq:F1.length≤d+1:=q.len
   rw[List.length_append,List.length_append]at hl1
   have e0:(TrD.pages (.yes d t)).length=(Z0a d t).length:=rfl
   cases o with
   | none=>
     obtain⟨_,rfl⟩:=h2
     have h3:=X5g d h1 hf hon hok hk hv hnd rfl
     have e1:(TrD.pages (.yes d t')).length=(Z0a d t').length:=rfl
     cases d with
     | zero=>have e2:potT (.yes 0 t)=1:=rfl;omega
     | succ d=>have e2:potT (.yes (d+1) t)=1+9*d+min (InT.keys t).length 9:=rfl;omega
   | some x=>
     obtain⟨top,_,_,rfl⟩:=h2
     have e1:(TrD.pages (.yes (d+1) (InT.mk top [x.1] [t',x.2]))).length=(Z0a d t').length+(Z0a d x.2).length+1:=by
      show(top:: [t',x.2].flatMap (Z0a d)).length=_
      simp
     have e3:(Z7w d (some x)).length=(Z0a d x.2).length:=rfl
     cases d with
     | zero=>have e2:potT (.yes 0 t)=1:=rfl;omega
     | succ d=>
       have h4:=(Y2q h1 hf hon hok hk hv hnd hk24 hs).2 (by intro e;cases e)
       have e2:potT (.yes (d+1) t)=1+9*d+min (InT.keys t).length 9:=rfl
       omega
theorem Soil.put{n i:Nat}{k v:ByteArray}{C S S':StoreD}{T T':TrD}(h:Soil n C S)(hi:i<16)(hp:Y1j S i k v S' T' T)(hf:Fm S)(ht:TrS S i T)(hk:Z3d k)(hv:v.size≤80)(hk24:k.size≤24)(hs:Slim T):Soil (n+Y3l T) C S':=by
 obtain⟨F,hl,hn⟩:=X4x hi hp hf ht hk hv hk24 hs
 exact h.big hl.big (fun b q=>(ht.given b q).2.2) hn
def Y9l(Ts:Nat→TrD):Nat→Nat
 | 0=>0
 | k+1=>Y9l Ts k+Y3l (Ts k)
def Y8d:Nat→Nat
 | 0=>0
 | t+1=>Y8d t+5*((t+17)/9)
theorem Z9x:∀ {a b:Nat},a≤b→Y8d a≤Y8d b
 | a,0,h=>by rw[Nat.le_zero.1 h];exact Nat.le_refl _
 | a,b+1,h=>by
   by_cases e:a=b+1
   ·rw[e];exact Nat.le_refl _
   ·have:=Z9x (show a≤b by omega)
    show Y8d a≤Y8d b+_
    omega
theorem Y5j{Ts:Nat→TrD}{t:Nat}(h:∀i,i<5→potT (Ts i)≤t):∀k,k≤5→Y9l Ts k≤k*((t+17)/9)
 | 0,_=>Nat.zero_le _
 | k+1,hk=>by
   have h1:=Y5j h k (by omega)
   have h3:=h k (by omega)
   have h4:Y3l (Ts k)≤(t+17)/9:=by unfold Y3l;omega
   show Y9l Ts k+Y3l (Ts k)≤_
   rw[Nat.succ_mul]
   omega
theorem Soil.dirty{n:Nat}{C S:StoreD}(h:Soil n C S)(N:Nat):(Z2f N S.dirty).length≤n+2:=by
 obtain⟨L,hL,h1⟩:=h.list
 have hsub:Z2f N S.dirty ⊆ 0::1::L:=fun b hb=>by
  obtain⟨_,h2⟩:=Z7l.1 hb
  by_cases h0:b<2
  ·rcases(show b=0∨b=1 by omega)with rfl | rfl<;>simp
  ·have:=h1 b (by omega) (.inl (fun e=>by rw[e]at h2;cases h2))
   simp[this]
 have:=(Y1b N S.dirty).length_le_of_subset hsub
 simp only[List.length_cons]at this
 omega
theorem Soil.start(n room:Nat):Soil 0 (Z1j n room) (Z1j n room):=by
 refine⟨rfl,[],Nat.le_refl _,fun b h2 hq=> ?_⟩
 exfalso
 rcases hq with q | q
 ·apply q
  show updI (updI Y8y 0 _) 1 _ (b:Int)=none
  rw[Z3f _ _ (by omega),Z3f _ _ (by omega)]
  rfl
 ·unfold Z1j at q
  rw[Y1n]at q
  have:=of_decide_eq_true q
  omega
end Go.Proofs.YtmiolpfanlpfnaaGreat
