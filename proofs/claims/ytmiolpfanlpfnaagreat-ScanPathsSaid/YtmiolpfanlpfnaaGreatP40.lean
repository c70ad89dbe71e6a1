/- Delete in any tree: the key there, or not. Conditions: a tree that is not too deep. -/
import Derived.Test.YtmiolpfanlpfnaaGreatP39
set_option maxRecDepth 100000
set_option maxHeartbeats 4000000
set_option linter.unusedSimpArgs false
set_option linter.unusedVariables false
namespace Go.Proofs.YtmiolpfanlpfnaaGreat
open Go.RowKit
theorem V4o{tr p i:Nat}{F:Nat→Prop}{S:StoreD}(T:TrD)(k:ByteArray)(w:World)(ht:Z0b w tr p i)(hnt:¬F tr)(h:PagerAt w p F S)(hf:Fm S)(hi:i<16)(hT:TrS S i T)(hd:T.fine)(hk:∃x∈T.list,x.1=k):
  Calls Tryz.prog 124 #[.pointer (some ⟨tr,0,none⟩),.string k] w fun e w'=>e= .returned (.int .i64 0)∧∃(S':StoreD) (T':TrD) (F':Nat→Prop),Y1d S i k S' T' T∧PagerAt w' p F' S'∧Keeps F F' w w':=by
 cases T with
 | no=>obtain⟨x,hx,_⟩:=hk;cases hx
 | yes d t=>exact V7j t k w ht hnt h hf hi hT hk hd (fun S1 t1 W F1 _ _ y1 y2 y3 y4 y5=>V7i (.yes d t1) W y3 y4 y5 hi y2 y1 hd)
theorem V2j{l:List OpD}(h:l.Pairwise (fun a b=>a.id≠b.id)){o:OpD}(ho:o∈l):getL l o.id=some o:=by
 cases hg:getL l o.id with
 | none=>
   unfold getL at hg
   have:=List.find?_eq_none.1 hg o ho
   simp at this
 | some x=>
   unfold getL at hg
   have h1:x.id=o.id:=by have:=List.find?_some hg;simpa using this
   rw[Y4d h (List.mem_of_find?_eq_some hg) ho h1]
def Z3r(Ts:Nat→TrD):Nat→Nat
 | 0=>0
 | k+1=>Z3r Ts k+(Ts k).pages.length
theorem Y9t{Ts Ts':Nat→TrD}{k:Nat}(h:∀i,i<k→Ts' i=Ts i):Z3r Ts' k=Z3r Ts k:=by
 induction k with
 | zero=>rfl
 | succ k ih=>rw[Z3r,Z3r,ih (fun i hi=>h i (by omega)),h k (by omega)]
structure DelK (tb p:Nat) (ts:Nat→Nat) (Ts0:Nat→TrD) (L:Nat→List OpD) (o:OpD) (R:Nat) (F0:Nat→Prop) (w:World) (k:Nat) (wr:World) (S:StoreD) (Ts:Nat→TrD) (F:Nat→Prop):Prop where
 at_:TblAt wr tb p ts F
 pag:PagerAt wr p F S
 keep:Keeps F0 F w wr
 tab:Tab S Ts (fun i=>if i<k then delO (L i) o.id else L i)
 done:∀i,i<k→∃Sa Sb,Fm Sa∧TrS Sa i (Ts0 i)∧(∃x∈(Ts0 i).list,x.1=wayK i o)∧Y1d Sa i (wayK i o) Sb (Ts i) (Ts0 i)
 same:∀i,k≤i→Ts i=Ts0 i
 dep:∀i,depT (Ts i)≤depT (Ts0 i)
 less:∀i,(Ts i).pages.length≤(Ts0 i).pages.length
 room:R+Z3r Ts0 k=Z1g S+Z3r Ts k
theorem DelK.step{tb p:Nat}{ts:Nat→Nat}{Ts0:Nat→TrD}{L:Nat→List OpD}{o:OpD}{R:Nat}{F0 F F':Nat→Prop}{w wr w':World}{k:Nat}{S S':StoreD}{Ts:Nat→TrD}{T':TrD}(h:DelK tb p ts Ts0 L o R F0 w k wr S Ts F)(hk:k<5)(ho:o∈L k)
 (hp:Y1d S k (wayK k o) S' T' (Ts k))(hp':PagerAt w' p F' S')(hkp:Keeps F F' wr w'):DelK tb p ts Ts0 L o R F0 w (k+1) w' S' (updF Ts k T') F':=by
 obtain⟨h1,h2,h3,h4⟩:=h.tab.delR hk (by rw[if_neg (Nat.lt_irrefl _)];exact ho) hp
 have hs:=h.same k (Nat.le_refl _)
 refine⟨h.at_.keep hkp,hp',h.keep.trans hkp,h1.congr (fun i _=>rfl) (fun i _=> ?_),fun i hi=> ?_,fun i hi=> ?_,fun i=> ?_,fun i=> ?_,?_⟩
 ·by_cases e:i=k
  ·subst e;rw[Z0w,if_pos (by omega),if_neg (by omega)]
  ·rw[Z0n _ _ e]
   by_cases hl:i<k
   ·rw[if_pos hl,if_pos (by omega)]
   ·rw[if_neg hl,if_neg (by omega)]
 ·by_cases e:i=k
  ·subst e
   rw[Z0w]
   exact⟨S,S',h.tab.fm,hs▸h.tab.tr i hk,hs▸⟨_,(h.tab.mem i hk _).2 ⟨o,by rw[if_neg (Nat.lt_irrefl _)];exact ho,rfl⟩,rfl⟩,hs▸hp⟩
  ·rw[Z0n _ _ e];exact h.done i (by omega)
 ·rw[Z0n _ _ (by omega)];exact h.same i (by omega)
 ·by_cases e:i=k
  ·subst e;rw[Z0w,←hs];exact h3
  ·rw[Z0n _ _ e];exact h.dep i
 ·by_cases e:i=k
  ·subst e;rw[Z0w,←hs];exact h4
  ·rw[Z0n _ _ e];exact h.less i
 ·have:=h.room
  have e1:Z3r (updF Ts k T') k=Z3r Ts k:=Y9t (fun i hi=>Z0n _ _ (by omega))
  show R+(Z3r Ts0 k+(Ts0 k).pages.length)=Z1g S'+(Z3r (updF Ts k T') k+(updF Ts k T' k).pages.length)
  rw[Z0w,e1]
  rw[hs]at h2
  omega
theorem X8y{tb p:Nat}{ts:Nat→Nat}{F:Nat→Prop}{S0:StoreD}{Ts0:Nat→TrD}{L:Nat→List OpD}(o:OpD)(w:World)(ht:TblAt w tb p ts F)(hp:PagerAt w p F S0)
 (hT:Tab S0 Ts0 L)(ho:∀i,i<5→o∈L i)(hd:∀i,i<5→depT (Ts0 i)≤31):
  Calls Tryz.prog 59 #[.pointer (some ⟨tb,0,none⟩),.int .i64 o.id] w fun e w'=>e= .returned (.int .i64 0)∧∃S' Ts' F',DelK tb p ts Ts0 L o (Z1g S0) F w 5 w' S' Ts' F':=by
 have hck:=hT.ok 0 (by omega) o (ho 0 (by omega))
 have hin:=OpIn.of hck
 have cG:Calls Tryz.prog 60 #[.pointer (some ⟨tb,0,none⟩),.int .i64 o.id] w fun e w'=>e= .returned (.tuple #[.agg #[.int .i64 o.id,.int .i64 o.proc,.int .i64 o.object,.int .i64 o.kind,.int .i64 o.method,.int .i64 o.arg,.int .i64 o.second,.bool o.done,.int .i64 o.result,.int .i64 o.invoke,.int .i64 o.ret],.int .i64 0])∧∃F',TblAt w' tb p ts F'∧PagerAt w' p F' S0∧Keeps F F' w w'∧∀i,F' i→i<w'.heap.size:=by
  have h1:=Z9x o.id w ht hp hT (hd 0 (by omega)) (by have:=hin.id;unfold In64;omega)
  rw[V2j (hT.ids 0 (by omega)) (ho 0 (by omega))]at h1
  refine h1.mono ?_
  rintro e w' ⟨rfl,F',q1,q2,q3⟩
  exact⟨rfl,fun i=>F' i∧i<w'.heap.size,⟨q1.row,q1.tree,fun q=>q1.out q.1,fun j hj q=>q1.outs j hj q.1⟩,q2.shrink,q3.shrink,fun i q=>q.2⟩
 have cW:Hid (∀i W,i<5→Calls Tryz.prog 120 #[.int .i64 (i:Nat),.agg #[.int .i64 o.id,.int .i64 o.proc,.int .i64 o.object,.int .i64 o.kind,.int .i64 o.method,.int .i64 o.arg,.int .i64 o.second,.bool o.done,.int .i64 o.result,.int .i64 o.invoke,.int .i64 o.ret]] W fun e w'=>e= .returned (.string (wayK i o))∧Ext W w'):=fun i W hi=>Y2n i o W hi (hin.way i)
 have HO:=hD ho
 have HD:=hD hd
 have HTAB:=hD hT
 generalize hR:Z1g S0=R at *
 have HRR:Hid (Z1g S0=R):=hR
 clear hd hT hR ht hp hin ho hck
 have cDel:Hid (∀(F0:Nat→Prop) (W0:World) k,k<5→∀(W wr:World) (S1:StoreD) (Ts1:Nat→TrD) (F1:Nat→Prop),DelK tb p ts Ts0 L o R F0 W0 k wr S1 Ts1 F1→Ext wr W→Calls Tryz.prog 124 #[.pointer (some ⟨ts k,0,none⟩),.string (wayK k o)] W fun e w'=>e= .returned (.int .i64 0)∧∃S' Ts' F',DelK tb p ts Ts0 L o R F0 W0 (k+1) w' S' Ts' F'):=fun F0 W0 k hk W wr S1 Ts1 F1 h hW=>by
  have hsame:=h.same k (Nat.le_refl _)
  have hdk:=HD.out k hk
  refine(V4o (Ts1 k) (wayK k o) W ((h.at_.ext hW).tree k hk) (h.at_.outs k hk) (h.pag.ext hW) h.tab.fm (by omega) (h.tab.tr k hk) (by rw[hsame];exact Y2g hdk) ⟨_,(h.tab.mem k hk _).2 ⟨o,by rw[if_neg (Nat.lt_irrefl _)];exact HO.out k hk,rfl⟩,rfl⟩).mono ?_
  rintro e w' ⟨rfl,S',T',F',hp,hp',hkp⟩
  exact⟨rfl,S',_,F',h.step hk (HO.out k hk) hp hp' ((Keeps.of hW).trans hkp)⟩
 go_enter Tryz.func59,Tryz.ntmps59
 go_upto_region 4 with (go_at_call 60;(with_reducible refine cG.mono ?_);clear cG;rintro e w1 ⟨rfl,F1,ht1,hp1,hk1,hl1⟩;have HT1:=hD ht1;have HP1:=hD hp1;have HK1:=hD hk1;have HL1:=hD hl1;clear ht1 hp1 hk1 hl1)
 generalize hB:w1.heap.size=B at *
 generalize hW2:World.alloc w1 _=W2
 have HX2:Hid (Ext w1 W2):=by unfold Hid;rw[←hW2];exact Ext.alloc _ _
 have HR0:Hid (Row1 W2 B 32 o.cells):=by unfold Hid;rw[←hW2,←hB];exact Row1.made w1 _ _
 have HLT:Hid (¬F1 B):=fun q=>by have:=HL1.out B q;omega
 have HWID:Hid (∀(F':Nat→Prop) (w':World),Keeps F1 F' W2 w'→Keeps F F' w w'):=fun F' w' h=>(HK1.out.ext HX2.out).trans h
 have HPK:Hid (DelK tb p ts Ts0 L o R F1 W2 0 W2 S0 Ts0 F1):=⟨HT1.out.ext HX2.out,HP1.out.ext HX2.out,Keeps.refl,HTAB.out.congr (fun i _=>rfl) (fun i _=>rfl),fun i hi=>absurd hi (by omega),fun i _=>rfl,fun i=>Nat.le_refl _,fun i=>Nat.le_refl _,by rw[HRR.out]⟩
 have t0:W2.cell? ⟨tb,0,none⟩=some (tp (ts 0)):=HPK.out.at_.row.cell 0
 have t1:W2.cell? ⟨tb,1,none⟩=some (tp (ts 1)):=HPK.out.at_.row.cell 1
 have t2:W2.cell? ⟨tb,2,none⟩=some (tp (ts 2)):=HPK.out.at_.row.cell 2
 have t3:W2.cell? ⟨tb,3,none⟩=some (tp (ts 3)):=HPK.out.at_.row.cell 3
 have t4:W2.cell? ⟨tb,4,none⟩=some (tp (ts 4)):=HPK.out.at_.row.cell 4
 clear hW2 hB HK1 HL1 HT1 HP1 HX2
 go_wp2_with fail
 clear t0 t1 t2 t3 t4
 go_loopw [23] (fun x wr=>∃(k:Nat) (S1:StoreD) (Ts1:Nat→TrD) (F2:Nat→Prop),k≤5∧x= .int .i64 (k:Nat)∧DelK tb p ts Ts0 L o R F1 W2 k wr S1 Ts1 F2) (fun x _=>5-(intOf x).toNat)
 case atStart=>exact⟨0,S0,Ts0,F1,by omega,rfl,HPK.out⟩
 case round=>
  obtain⟨k,S1,Ts1,F2,hk,rfl,hpk⟩:=hrel
  have HP:=hD hpk
  clear hpk
  obtain⟨b0,b1,b2,b3,b4,b5,b6,b7,b8,b9,b10⟩:=At11.row (HP.out.keep.only.row HR0.out HLT.out)
  by_cases hk5:k=5
  ·subst hk5
   go_wp2_with fail
   go_ret
   have h1:=HP.out
   exact⟨rfl,S1,Ts1,F2,h1.at_,h1.pag,HWID.out _ _ h1.keep,h1.tab,h1.done,h1.same,h1.dep,h1.less,h1.room⟩
  ·rcases(show k=0∨k=1∨k=2∨k=3∨k=4 from by omega)with rfl | rfl | rfl | rfl | rfl
   ·have cP:Hid (∀W,Ext wr W→Calls Tryz.prog 124 #[.pointer (some ⟨ts 0,0,none⟩),.string (wayK 0 o)] W fun e w'=>e= .returned (.int .i64 0)∧∃S' Ts' F',DelK tb p ts Ts0 L o R F1 W2 1 w' S' Ts' F'):=fun W hW=>cDel.out _ _ 0 (by omega) W wr S1 Ts1 F2 HP.out hW
    have cW1:Hid (∀W,Calls Tryz.prog 120 #[.int .i64 0,.agg #[.int .i64 o.id,.int .i64 o.proc,.int .i64 o.object,.int .i64 o.kind,.int .i64 o.method,.int .i64 o.arg,.int .i64 o.second,.bool o.done,.int .i64 o.result,.int .i64 o.invoke,.int .i64 o.ret]] W fun e w'=>e= .returned (.string (wayK 0 o))∧Ext W w'):=fun W=>cW.out 0 W (by omega)
    generalize wayK 0 o=ky at cP cW1
    have hix:=X9r ts wr
    clear cW cDel
    go_wp2_with (first
     | (go_at_call 120;(with_reducible refine(cW1.out _).mono ?_);clear cW1;rintro e w2 ⟨rfl,hb2⟩)
     | (go_at_call 124;(with_reducible refine(cP.out _ hb2).mono ?_);clear cP;rintro e w3 ⟨rfl,S3,Ts3,F3,hp3⟩;have HP3:=hD hp3;clear hp3))
    go_roundw
    case rel=>exact⟨1,S3,Ts3,F3,by omega,by go_num,HP3.out⟩
    case measure=>simp[intOf]
   ·have cP:Hid (∀W,Ext wr W→Calls Tryz.prog 124 #[.pointer (some ⟨ts 1,0,none⟩),.string (wayK 1 o)] W fun e w'=>e= .returned (.int .i64 0)∧∃S' Ts' F',DelK tb p ts Ts0 L o R F1 W2 2 w' S' Ts' F'):=fun W hW=>cDel.out _ _ 1 (by omega) W wr S1 Ts1 F2 HP.out hW
    have cW1:Hid (∀W,Calls Tryz.prog 120 #[.int .i64 1,.agg #[.int .i64 o.id,.int .i64 o.proc,.int .i64 o.object,.int .i64 o.kind,.int .i64 o.method,.int .i64 o.arg,.int .i64 o.second,.bool o.done,.int .i64 o.result,.int .i64 o.invoke,.int .i64 o.ret]] W fun e w'=>e= .returned (.string (wayK 1 o))∧Ext W w'):=fun W=>cW.out 1 W (by omega)
    generalize wayK 1 o=ky at cP cW1
    have hix:=X9q ts wr
    clear cW cDel
    go_wp2_with (first
     | (go_at_call 120;(with_reducible refine(cW1.out _).mono ?_);clear cW1;rintro e w2 ⟨rfl,hb2⟩)
     | (go_at_call 124;(with_reducible refine(cP.out _ hb2).mono ?_);clear cP;rintro e w3 ⟨rfl,S3,Ts3,F3,hp3⟩;have HP3:=hD hp3;clear hp3))
    go_roundw
    case rel=>exact⟨2,S3,Ts3,F3,by omega,by go_num,HP3.out⟩
    case measure=>simp[intOf]
   ·have cP:Hid (∀W,Ext wr W→Calls Tryz.prog 124 #[.pointer (some ⟨ts 2,0,none⟩),.string (wayK 2 o)] W fun e w'=>e= .returned (.int .i64 0)∧∃S' Ts' F',DelK tb p ts Ts0 L o R F1 W2 3 w' S' Ts' F'):=fun W hW=>cDel.out _ _ 2 (by omega) W wr S1 Ts1 F2 HP.out hW
    have cW1:Hid (∀W,Calls Tryz.prog 120 #[.int .i64 2,.agg #[.int .i64 o.id,.int .i64 o.proc,.int .i64 o.object,.int .i64 o.kind,.int .i64 o.method,.int .i64 o.arg,.int .i64 o.second,.bool o.done,.int .i64 o.result,.int .i64 o.invoke,.int .i64 o.ret]] W fun e w'=>e= .returned (.string (wayK 2 o))∧Ext W w'):=fun W=>cW.out 2 W (by omega)
    generalize wayK 2 o=ky at cP cW1
    have hix:=X9p ts wr
    clear cW cDel
    go_wp2_with (first
     | (go_at_call 120;(with_reducible refine(cW1.out _).mono ?_);clear cW1;rintro e w2 ⟨rfl,hb2⟩)
     | (go_at_call 124;(with_reducible refine(cP.out _ hb2).mono ?_);clear cP;rintro e w3 ⟨rfl,S3,Ts3,F3,hp3⟩;have HP3:=hD hp3;clear hp3))
    go_roundw
    case rel=>exact⟨3,S3,Ts3,F3,by omega,by go_num,HP3.out⟩
    case measure=>simp[intOf]
   ·have cP:Hid (∀W,Ext wr W→Calls Tryz.prog 124 #[.pointer (some ⟨ts 3,0,none⟩),.string (wayK 3 o)] W fun e w'=>e= .returned (.int .i64 0)∧∃S' Ts' F',DelK tb p ts Ts0 L o R F1 W2 4 w' S' Ts' F'):=fun W hW=>cDel.out _ _ 3 (by omega) W wr S1 Ts1 F2 HP.out hW
    have cW1:Hid (∀W,Calls Tryz.prog 120 #[.int .i64 3,.agg #[.int .i64 o.id,.int .i64 o.proc,.int .i64 o.object,.int .i64 o.kind,.int .i64 o.method,.int .i64 o.arg,.int .i64 o.second,.bool o.done,.int .i64 o.result,.int .i64 o.invoke,.int .i64 o.ret]] W fun e w'=>e= .returned (.string (wayK 3 o))∧Ext W w'):=fun W=>cW.out 3 W (by omega)
    generalize wayK 3 o=ky at cP cW1
    have hix:=X9o ts wr
    clear cW cDel
    go_wp2_with (first
     | (go_at_call 120;(with_reducible refine(cW1.out _).mono ?_);clear cW1;rintro e w2 ⟨rfl,hb2⟩)
     | (go_at_call 124;(with_reducible refine(cP.out _ hb2).mono ?_);clear cP;rintro e w3 ⟨rfl,S3,Ts3,F3,hp3⟩;have HP3:=hD hp3;clear hp3))
    go_roundw
    case rel=>exact⟨4,S3,Ts3,F3,by omega,by go_num,HP3.out⟩
    case measure=>simp[intOf]
   ·have cP:Hid (∀W,Ext wr W→Calls Tryz.prog 124 #[.pointer (some ⟨ts 4,0,none⟩),.string (wayK 4 o)] W fun e w'=>e= .returned (.int .i64 0)∧∃S' Ts' F',DelK tb p ts Ts0 L o R F1 W2 5 w' S' Ts' F'):=fun W hW=>cDel.out _ _ 4 (by omega) W wr S1 Ts1 F2 HP.out hW
    have cW1:Hid (∀W,Calls Tryz.prog 120 #[.int .i64 4,.agg #[.int .i64 o.id,.int .i64 o.proc,.int .i64 o.object,.int .i64 o.kind,.int .i64 o.method,.int .i64 o.arg,.int .i64 o.second,.bool o.done,.int .i64 o.result,.int .i64 o.invoke,.int .i64 o.ret]] W fun e w'=>e= .returned (.string (wayK 4 o))∧Ext W w'):=fun W=>cW.out 4 W (by omega)
    generalize wayK 4 o=ky at cP cW1
    have hix:=X9n ts wr
    clear cW cDel
    go_wp2_with (first
     | (go_at_call 120;(with_reducible refine(cW1.out _).mono ?_);clear cW1;rintro e w2 ⟨rfl,hb2⟩)
     | (go_at_call 124;(with_reducible refine(cP.out _ hb2).mono ?_);clear cP;rintro e w3 ⟨rfl,S3,Ts3,F3,hp3⟩;have HP3:=hD hp3;clear hp3))
    go_roundw
    case rel=>exact⟨5,S3,Ts3,F3,by omega,by go_num,HP3.out⟩
    case measure=>simp[intOf]
theorem X1j{tb p:Nat}{ts:Nat→Nat}{F:Nat→Prop}{S0:StoreD}{L:Nat→List OpD}(Q:StoreD→(Nat→TrD)→Prop)(o:OpD)(w:World)(ht:TblAt w tb p ts F)(hp:PagerAt w p F S0)(ho:Z2u o=0)
 (hdel:∀(W:World) (F1:Nat→Prop),TblAt W tb p ts F1→PagerAt W p F1 S0→Calls Tryz.prog 59 #[.pointer (some ⟨tb,0,none⟩),.int .i64 o.id] W fun e w'=>∃ev S Ts0,(ev=0∨ev=6)∧e= .returned (.int .i64 ev)∧Q S Ts0∧∃F',TblAt w' tb p ts F'∧PagerAt w' p F' S∧Keeps F1 F' W w')
 (hQ:∀S Ts0,Q S Ts0→Tab S Ts0 L∧(∀i,i<5→depT (Ts0 i)≤31)∧Z6f Ts0 5≤Z1g S)(hno:∀i,i<5→∀x∈L i,x.id≠o.id):
  Calls Tryz.prog 55 #[.pointer (some ⟨tb,0,none⟩),o.val] w fun e w'=>e= .returned (.int .i64 0)∧∃S Ts0,Q S Ts0∧∃S' Ts' F',PutK tb p ts Ts0 L o (Z1g S) F w 5 w' S' Ts' F':=by
 have hin:=OpIn.of ho
 have HOK:=hD ho
 obtain⟨W0,hW0⟩:∃W0,w.alloc (.cells #[.int .i64 o.id,.int .i64 o.proc,.int .i64 o.object,.int .i64 o.kind,.int .i64 o.method,.int .i64 o.arg,.int .i64 o.second,.bool o.done,.int .i64 o.result,.int .i64 o.invoke,.int .i64 o.ret] 32)=W0:=⟨_,rfl⟩
 have HX0:Hid (Ext w W0):=by unfold Hid;rw[←hW0];exact Ext.alloc _ _
 have HR0:Hid (Row1 W0 w.heap.size 32 o.cells):=by unfold Hid;rw[←hW0];exact Row1.made w _ _
 have HT0:Hid (TblAt W0 tb p ts (fun i=>F i∧i<w.heap.size)):=TblAt.ext (F:=fun i=>F i∧i<w.heap.size) ⟨ht.row,ht.tree,fun q=>ht.out q.1,fun j hj q=>ht.outs j hj q.1⟩ HX0.out
 have HP0:Hid (PagerAt W0 p (fun i=>F i∧i<w.heap.size) S0):=PagerAt.ext (F:=fun i=>F i∧i<w.heap.size) hp.shrink HX0.out
 have HWID:Hid (∀(F':Nat→Prop) (w':World),Keeps (fun i=>F i∧i<w.heap.size) F' W0 w'→Keeps F F' w w'):=fun F' w' h=>((Keeps.of HX0.out).trans h).widen (fun i q=>q.1)
 have HLT:Hid (¬(fun i=>F i∧i<w.heap.size) w.heap.size):=fun q=>absurd q.2 (Nat.lt_irrefl _)
 generalize (fun i=>F i∧i<w.heap.size)=F0 at *
 have HRES:=hin.result
 have cE:Hid (∀W,Calls Tryz.prog 118 #[.agg #[.int .i64 o.id,.int .i64 o.proc,.int .i64 o.object,.int .i64 o.kind,.int .i64 o.method,.int .i64 o.arg,.int .i64 o.second,.bool o.done,.int .i64 o.result,.int .i64 o.invoke,.int .i64 o.ret]] W fun e w'=>e= .returned (.tuple #[.string (bts (opL o)),.int .i64 0])∧Ext W w'):=fun W=>by
  have h1:=Y1j o W (by omega)
  rw[ho,if_pos rfl]at h1
  exact h1
 have cM:Hid (∀W,Ext W0 W→Calls Tryz.prog 70 #[.pointer (some ⟨tb,0,none⟩)] W fun e w'=>e= .returned (.bool true)∧W=w'):=fun W hW=>Z5t W (HT0.out.ext hW).row
 have cD:Hid (∀W,Ext W0 W→Calls Tryz.prog 59 #[.pointer (some ⟨tb,0,none⟩),.int .i64 o.id] W fun e w'=>∃ev S Ts0,(ev=0∨ev=6)∧e= .returned (.int .i64 ev)∧Q S Ts0∧∃F',TblAt w' tb p ts F'∧PagerAt w' p F' S∧Keeps F0 F' W w'):=fun W hW=>hdel W F0 (HT0.out.ext hW) (HP0.out.ext hW)
 have cW:Hid (∀i W,i<5→Calls Tryz.prog 120 #[.int .i64 (i:Nat),.agg #[.int .i64 o.id,.int .i64 o.proc,.int .i64 o.object,.int .i64 o.kind,.int .i64 o.method,.int .i64 o.arg,.int .i64 o.second,.bool o.done,.int .i64 o.result,.int .i64 o.invoke,.int .i64 o.ret]] W fun e w'=>e= .returned (.string (wayK i o))∧Ext W w'):=fun i W hi=>Y2n i o W hi (hin.way i)
 have HNO:=hD hno
 have HQ:=hD hQ
 clear hdel hno hQ ht hp hin ho
 have cPut0:Hid (∀S Ts0 R,Q S Ts0→Z1g S=R→∀k,k<5→∀(W wr:World) (S1:StoreD) (Ts1:Nat→TrD) (F1:Nat→Prop),PutK tb p ts Ts0 L o R F0 W0 k wr S1 Ts1 F1→Ext wr W→Calls Tryz.prog 119 #[.pointer (some ⟨ts k,0,none⟩),.string (wayK k o),.string (recW k o)] W fun e w'=>e= .returned (.int .i64 0)∧∃S' Ts' F',PutK tb p ts Ts0 L o R F0 W0 (k+1) w' S' Ts' F'):=fun S Ts0 R hq hRR k hk W wr S1 Ts1 F1 h hW=>by
  obtain⟨_,jH,hR⟩:=HQ.out S Ts0 hq
  rw[hRR]at hR
  have hsame:=h.same k (Nat.le_refl _)
  have hneed:=X3z Ts0 k 5 hk
  have hdk:=jH k hk
  have hr:=h.room
  refine(V4m (Ts1 k) (wayK k o) (recW k o) W ((h.at_.ext hW).tree k hk) (h.at_.outs k hk) (h.pag.ext hW) (by omega) h.tab.fm (h.tab.tr k hk) (X1d k o) (Y3b k (OpIn.of HOK.out)) (by rw[hsame];omega) (by rw[hsame];exact Y2g hdk)).mono ?_
  rintro e w' ⟨rfl,S',T',hp,F',hp',hkp⟩
  exact⟨rfl,S',_,F',h.step hk HOK.out (HNO.out k hk) hp hp' ((Keeps.of hW).trans hkp)⟩
 go_enter Tryz.func55,Tryz.ntmps55
 go_upto_region 1 with fail
 clear hW0
 obtain⟨b0,b1,b2,b3,b4,b5,b6,b7,b8,b9,b10⟩:=At11.row HR0.out
 go_upto_region 7 with (first
  | (go_at_call 118;(with_reducible refine(cE.out _).mono ?_);clear cE;rintro e w1 ⟨rfl,hb1⟩;have b0:=(At11.row (HR0.out.ext hb1 HR0.out.lt)).1;have HB1:=hD hb1;clear hb1)
  | (go_at_call 70;(with_reducible refine(cM.out _ HB1.out).mono ?_);clear cM;rintro e w2 ⟨rfl,rfl⟩)
  | (go_at_call 59;(with_reducible refine(cD.out _ HB1.out).mono ?_);clear cD;rintro e w3 ⟨ev,S,Ts0,hev,rfl,hq3,F3,ht3,hp3,hk3⟩;have HQ3:=hD hq3;clear hq3;have HT3:=hD ht3;have HP3:=hD hp3;have HK3:Hid (Keeps F0 F3 W0 w3):=(Keeps.of HB1.out).trans hk3;clear ht3 hp3 hk3))
 have HTAB:Hid (Tab S Ts0 L):=(HQ.out S Ts0 HQ3.out).1
 obtain⟨R,hR⟩:∃R,Z1g S=R:=⟨_,rfl⟩
 have HRR:Hid (Z1g S=R):=hR
 have cPut:Hid (∀k,k<5→∀(W wr:World) (S1:StoreD) (Ts1:Nat→TrD) (F1:Nat→Prop),PutK tb p ts Ts0 L o R F0 W0 k wr S1 Ts1 F1→Ext wr W→Calls Tryz.prog 119 #[.pointer (some ⟨ts k,0,none⟩),.string (wayK k o),.string (recW k o)] W fun e w'=>e= .returned (.int .i64 0)∧∃S' Ts' F',PutK tb p ts Ts0 L o R F0 W0 (k+1) w' S' Ts' F'):=cPut0.out S Ts0 R HQ3.out hR
 clear hR cPut0
 have HPK:Hid (PutK tb p ts Ts0 L o R F0 W0 0 w3 S Ts0 F3):=⟨HT3.out,HP3.out,HK3.out,HTAB.out.congr (fun i _=>rfl) (fun i _=>rfl),fun i hi=>absurd hi (by omega),fun i _=>rfl,by rw[HRR.out];exact Nat.le_refl _⟩
 have t0:w3.cell? ⟨tb,0,none⟩=some (tp (ts 0)):=HT3.out.row.cell 0
 have t1:w3.cell? ⟨tb,1,none⟩=some (tp (ts 1)):=HT3.out.row.cell 1
 have t2:w3.cell? ⟨tb,2,none⟩=some (tp (ts 2)):=HT3.out.row.cell 2
 have t3:w3.cell? ⟨tb,3,none⟩=some (tp (ts 3)):=HT3.out.row.cell 3
 have t4:w3.cell? ⟨tb,4,none⟩=some (tp (ts 4)):=HT3.out.row.cell 4
 clear b0 b1 b2 b3 b4 b5 b6 b7 b8 b9 b10
 go_cut [7,32] (fun _ v wx=>v= .bool false∧wx=w3)
 case first=>
  rcases hev with rfl | rfl
  ·go_wp2_with fail
   go_meet
   exact⟨rfl,rfl⟩
  ·go_wp2_with fail
   go_meet
   exact⟨rfl,rfl⟩
 case rest=>
 obtain⟨rfl,rfl⟩:=hcut
 go_wp2_with fail
 clear t0 t1 t2 t3 t4
 go_loopw [38] (fun x wr=>∃(k:Nat) (S1:StoreD) (Ts1:Nat→TrD) (F1:Nat→Prop),k≤5∧x= .int .i64 (k:Nat)∧PutK tb p ts Ts0 L o R F0 W0 k wr S1 Ts1 F1) (fun x _=>5-(intOf x).toNat)
 case atStart=>exact⟨0,S,Ts0,F3,by omega,rfl,HPK.out⟩
 case round=>
  obtain⟨k,S1,Ts1,F1,hk,rfl,hpk⟩:=hrel
  have HP:=hD hpk
  clear hpk
  obtain⟨b0,b1,b2,b3,b4,b5,b6,b7,b8,b9,b10⟩:=At11.row (HP.out.keep.only.row HR0.out HLT.out)
  by_cases hk5:k=5
  ·subst hk5
   go_wp2_with fail
   go_ret
   have h1:=HP.out
   refine⟨rfl,S,Ts0,HQ3.out,S1,Ts1,F1,?_⟩
   rw[HRR.out]
   exact⟨h1.at_,h1.pag,HWID.out _ _ h1.keep,h1.tab,h1.done,h1.same,h1.room⟩
  ·rcases(show k=0∨k=1∨k=2∨k=3∨k=4 from by omega)with rfl | rfl | rfl | rfl | rfl
   ·have cP:Hid (∀W,Ext wr W→Calls Tryz.prog 119 #[.pointer (some ⟨ts 0,0,none⟩),.string (wayK 0 o),.string (bts (opL o))] W fun e w'=>e= .returned (.int .i64 0)∧∃S' Ts' F',PutK tb p ts Ts0 L o R F0 W0 1 w' S' Ts' F'):=fun W hW=>cPut.out 0 (by omega) W wr S1 Ts1 F1 HP.out hW
    have cW1:Hid (∀W,Calls Tryz.prog 120 #[.int .i64 0,.agg #[.int .i64 o.id,.int .i64 o.proc,.int .i64 o.object,.int .i64 o.kind,.int .i64 o.method,.int .i64 o.arg,.int .i64 o.second,.bool o.done,.int .i64 o.result,.int .i64 o.invoke,.int .i64 o.ret]] W fun e w'=>e= .returned (.string (wayK 0 o))∧Ext W w'):=fun W=>cW.out 0 W (by omega)
    generalize wayK 0 o=ky at cP cW1
    have hix:=X9r ts wr
    clear cW cPut
    go_wp2_with (first
     | (go_at_call 120;(with_reducible refine(cW1.out _).mono ?_);clear cW1;rintro e w2 ⟨rfl,hb2⟩)
     | (go_at_call 119;(with_reducible refine(cP.out _ hb2).mono ?_);clear cP;rintro e w3 ⟨rfl,S3,Ts3,F3,hp3⟩;have HP3:=hD hp3;clear hp3))
    go_roundw
    case rel=>exact⟨1,S3,Ts3,F3,by omega,by go_num,HP3.out⟩
    case measure=>simp[intOf]
   ·have cP:Hid (∀W,Ext wr W→Calls Tryz.prog 119 #[.pointer (some ⟨ts 1,0,none⟩),.string (wayK 1 o),.string ⟨#[]⟩] W fun e w'=>e= .returned (.int .i64 0)∧∃S' Ts' F',PutK tb p ts Ts0 L o R F0 W0 2 w' S' Ts' F'):=fun W hW=>cPut.out 1 (by omega) W wr S1 Ts1 F1 HP.out hW
    have cW1:Hid (∀W,Calls Tryz.prog 120 #[.int .i64 1,.agg #[.int .i64 o.id,.int .i64 o.proc,.int .i64 o.object,.int .i64 o.kind,.int .i64 o.method,.int .i64 o.arg,.int .i64 o.second,.bool o.done,.int .i64 o.result,.int .i64 o.invoke,.int .i64 o.ret]] W fun e w'=>e= .returned (.string (wayK 1 o))∧Ext W w'):=fun W=>cW.out 1 W (by omega)
    generalize wayK 1 o=ky at cP cW1
    have hix:=X9q ts wr
    clear cW cPut
    go_wp2_with (first
     | (go_at_call 120;(with_reducible refine(cW1.out _).mono ?_);clear cW1;rintro e w2 ⟨rfl,hb2⟩)
     | (go_at_call 119;(with_reducible refine(cP.out _ hb2).mono ?_);clear cP;rintro e w3 ⟨rfl,S3,Ts3,F3,hp3⟩;have HP3:=hD hp3;clear hp3))
    go_roundw
    case rel=>exact⟨2,S3,Ts3,F3,by omega,by go_num,HP3.out⟩
    case measure=>simp[intOf]
   ·have cP:Hid (∀W,Ext wr W→Calls Tryz.prog 119 #[.pointer (some ⟨ts 2,0,none⟩),.string (wayK 2 o),.string ⟨#[]⟩] W fun e w'=>e= .returned (.int .i64 0)∧∃S' Ts' F',PutK tb p ts Ts0 L o R F0 W0 3 w' S' Ts' F'):=fun W hW=>cPut.out 2 (by omega) W wr S1 Ts1 F1 HP.out hW
    have cW1:Hid (∀W,Calls Tryz.prog 120 #[.int .i64 2,.agg #[.int .i64 o.id,.int .i64 o.proc,.int .i64 o.object,.int .i64 o.kind,.int .i64 o.method,.int .i64 o.arg,.int .i64 o.second,.bool o.done,.int .i64 o.result,.int .i64 o.invoke,.int .i64 o.ret]] W fun e w'=>e= .returned (.string (wayK 2 o))∧Ext W w'):=fun W=>cW.out 2 W (by omega)
    generalize wayK 2 o=ky at cP cW1
    have hix:=X9p ts wr
    clear cW cPut
    go_wp2_with (first
     | (go_at_call 120;(with_reducible refine(cW1.out _).mono ?_);clear cW1;rintro e w2 ⟨rfl,hb2⟩)
     | (go_at_call 119;(with_reducible refine(cP.out _ hb2).mono ?_);clear cP;rintro e w3 ⟨rfl,S3,Ts3,F3,hp3⟩;have HP3:=hD hp3;clear hp3))
    go_roundw
    case rel=>exact⟨3,S3,Ts3,F3,by omega,by go_num,HP3.out⟩
    case measure=>simp[intOf]
   ·have cP:Hid (∀W,Ext wr W→Calls Tryz.prog 119 #[.pointer (some ⟨ts 3,0,none⟩),.string (wayK 3 o),.string ⟨#[]⟩] W fun e w'=>e= .returned (.int .i64 0)∧∃S' Ts' F',PutK tb p ts Ts0 L o R F0 W0 4 w' S' Ts' F'):=fun W hW=>cPut.out 3 (by omega) W wr S1 Ts1 F1 HP.out hW
    have cW1:Hid (∀W,Calls Tryz.prog 120 #[.int .i64 3,.agg #[.int .i64 o.id,.int .i64 o.proc,.int .i64 o.object,.int .i64 o.kind,.int .i64 o.method,.int .i64 o.arg,.int .i64 o.second,.bool o.done,.int .i64 o.result,.int .i64 o.invoke,.int .i64 o.ret]] W fun e w'=>e= .returned (.string (wayK 3 o))∧Ext W w'):=fun W=>cW.out 3 W (by omega)
    generalize wayK 3 o=ky at cP cW1
    have hix:=X9o ts wr
    clear cW cPut
    go_wp2_with (first
     | (go_at_call 120;(with_reducible refine(cW1.out _).mono ?_);clear cW1;rintro e w2 ⟨rfl,hb2⟩)
     | (go_at_call 119;(with_reducible refine(cP.out _ hb2).mono ?_);clear cP;rintro e w3 ⟨rfl,S3,Ts3,F3,hp3⟩;have HP3:=hD hp3;clear hp3))
    go_roundw
    case rel=>exact⟨4,S3,Ts3,F3,by omega,by go_num,HP3.out⟩
    case measure=>simp[intOf]
   ·have cP:Hid (∀W,Ext wr W→Calls Tryz.prog 119 #[.pointer (some ⟨ts 4,0,none⟩),.string (wayK 4 o),.string ⟨#[]⟩] W fun e w'=>e= .returned (.int .i64 0)∧∃S' Ts' F',PutK tb p ts Ts0 L o R F0 W0 5 w' S' Ts' F'):=fun W hW=>cPut.out 4 (by omega) W wr S1 Ts1 F1 HP.out hW
    have cW1:Hid (∀W,Calls Tryz.prog 120 #[.int .i64 4,.agg #[.int .i64 o.id,.int .i64 o.proc,.int .i64 o.object,.int .i64 o.kind,.int .i64 o.method,.int .i64 o.arg,.int .i64 o.second,.bool o.done,.int .i64 o.result,.int .i64 o.invoke,.int .i64 o.ret]] W fun e w'=>e= .returned (.string (wayK 4 o))∧Ext W w'):=fun W=>cW.out 4 W (by omega)
    generalize wayK 4 o=ky at cP cW1
    have hix:=X9n ts wr
    clear cW cPut
    go_wp2_with (first
     | (go_at_call 120;(with_reducible refine(cW1.out _).mono ?_);clear cW1;rintro e w2 ⟨rfl,hb2⟩)
     | (go_at_call 119;(with_reducible refine(cP.out _ hb2).mono ?_);clear cP;rintro e w3 ⟨rfl,S3,Ts3,F3,hp3⟩;have HP3:=hD hp3;clear hp3))
    go_roundw
    case rel=>exact⟨5,S3,Ts3,F3,by omega,by go_num,HP3.out⟩
    case measure=>simp[intOf]
theorem Y3i{Ts Ts':Nat→TrD}(h:∀i,(Ts' i).pages.length≤(Ts i).pages.length):∀k,Z3r Ts' k≤Z3r Ts k
 | 0=>Nat.le_refl _
 | k+1=>by
   have h1:=Y3i h k
   have h2:=h k
   show Z3r Ts' k+(Ts' k).pages.length≤Z3r Ts k+(Ts k).pages.length
   omega
theorem Y5u{Ts Ts':Nat→TrD}(h:∀i,depT (Ts' i)≤depT (Ts i)):∀k,Z6f Ts' k≤Z6f Ts k
 | 0=>Nat.le_refl _
 | k+1=>by
   have h1:=Y5u h k
   have h2:=h k
   show Z6f Ts' k+(Ts' k).need≤Z6f Ts k+(Ts k).need
   rw[Y7p,Y7p]
   omega
structure DelB (S0:StoreD) (Ts0:Nat→TrD) (l:List OpD) (id:Int) (S:StoreD) (Ts:Nat→TrD):Prop where
 tab:Tab S Ts (fun _=>delO l id)
 dep:∀i,depT (Ts i)≤depT (Ts0 i)
 less:∀i,(Ts i).pages.length≤(Ts0 i).pages.length
 room:Z1g S0+Z3r Ts0 5=Z1g S+Z3r Ts 5
 done:(Ts=Ts0∧getL l id=none)∨∃o,getL l id=some o∧∀i,i<5→∃Sa Sb,Fm Sa∧TrS Sa i (Ts0 i)∧(∃x∈(Ts0 i).list,x.1=wayK i o)∧Y1d Sa i (wayK i o) Sb (Ts i) (Ts0 i)
theorem DelB.more{S0 S:StoreD}{Ts0 Ts:Nat→TrD}{l:List OpD}{id:Int}(h:DelB S0 Ts0 l id S Ts):Z1g S0≤Z1g S∧Z6f Ts 5≤Z6f Ts0 5:=by
 have h1:=h.room
 have h2:=Y3i h.less 5
 exact⟨by omega,Y5u h.dep 5⟩
theorem V3g{l:List OpD}{id:Int}(h:getL l id=none):delO l id=l:=by
 unfold getL at h
 rw[List.find?_eq_none]at h
 unfold delO
 rw[List.filter_eq_self]
 intro x hx
 have:=h x hx
 simpa using this
def delE(l:List OpD)(id:Int):Int:=if(getL l id).isSome then 0 else 6
theorem X5y{tb p:Nat}{ts:Nat→Nat}{F:Nat→Prop}{S0:StoreD}{Ts0:Nat→TrD}{l:List OpD}(id:Int)(w:World)(ht:TblAt w tb p ts F)(hp:PagerAt w p F S0)
 (hT:Tab S0 Ts0 (fun _=>l))(hd:∀i,i<5→depT (Ts0 i)≤31)(hid:In64 id):
  Calls Tryz.prog 59 #[.pointer (some ⟨tb,0,none⟩),.int .i64 id] w fun e w'=>e= .returned (.int .i64 (delE l id))∧∃S Ts,DelB S0 Ts0 l id S Ts∧∃F',TblAt w' tb p ts F'∧PagerAt w' p F' S∧Keeps F F' w w':=by
 cases hg:getL l id with
 | none=>
   refine(X1k id w ht hp hT (hd 0 (by omega)) hid hg).mono ?_
   rintro e w' ⟨rfl,h⟩
   exact⟨by unfold delE;rw[hg];rfl,S0,Ts0,⟨by rw[V3g hg];exact hT,fun _=>Nat.le_refl _,fun _=>Nat.le_refl _,rfl,.inl ⟨rfl,hg⟩⟩,h⟩
 | some o=>
   have h0:=hg
   unfold getL at h0
   have hm:=List.mem_of_find?_eq_some h0
   have hi:o.id=id:=by have:=List.find?_some h0;simpa using this
   subst hi
   refine(X8y (L:=fun _=>l) o w ht hp hT (fun _ _=>hm) hd).mono ?_
   rintro e w' ⟨rfl,S,Ts,F',h⟩
   refine⟨by unfold delE;rw[hg];rfl,S,Ts,⟨h.tab.congr (fun _ _=>rfl) (fun i hi=> ?_),h.dep,h.less,h.room,.inr ⟨o,hg,h.done⟩⟩,F',h.at_,h.pag,h.keep⟩
   rw[if_pos hi]
structure PutB (S0:StoreD) (Ts0:Nat→TrD) (l:List OpD) (o:OpD) (S:StoreD) (Ts:Nat→TrD):Prop where
 tab:Tab S Ts (fun _=>o::delO l o.id)
 via:∃S1 Ts1,DelB S0 Ts0 l o.id S1 Ts1∧(∀i,i<5→U1m i o (Ts1 i) (Ts i))∧Z1g S1≤Z1g S+Z6f Ts1 5
theorem X5x{tb p:Nat}{ts:Nat→Nat}{F:Nat→Prop}{S0:StoreD}{Ts0:Nat→TrD}{l:List OpD}(o:OpD)(w:World)(ht:TblAt w tb p ts F)(hp:PagerAt w p F S0)(ho:Z2u o=0)
 (hT:Tab S0 Ts0 (fun _=>l))(hd:∀i,i<5→depT (Ts0 i)≤31)(hr:Z6f Ts0 5≤Z1g S0):
  Calls Tryz.prog 55 #[.pointer (some ⟨tb,0,none⟩),o.val] w fun e w'=>e= .returned (.int .i64 0)∧∃S Ts,PutB S0 Ts0 l o S Ts∧∃F',TblAt w' tb p ts F'∧PagerAt w' p F' S∧Keeps F F' w w':=by
 have hid:In64 o.id:=by have:=(OpIn.of ho).id;unfold In64;omega
 refine(X1j (L:=fun _=>delO l o.id) (DelB S0 Ts0 l o.id) o w ht hp ho (fun W F1 h1 h2=>(X5y o.id W h1 h2 hT hd hid).mono ?_) (fun S Ts h=>⟨h.tab,fun i hi=>Nat.le_trans (h.dep i) (hd i hi),by have:=h.more;omega⟩) (fun i _ x hx=>(Z9m.1 hx).2)).mono ?_
 ·rintro e w' ⟨rfl,S,Ts,hb,h⟩
  refine⟨_,S,Ts,?_,rfl,hb,h⟩
  unfold delE
  split
  ·exact .inl rfl
  ·exact .inr rfl
 ·rintro e w' ⟨rfl,S1,Ts1,hb,S,Ts,F',h⟩
  exact⟨rfl,S,Ts,⟨h.tab.congr (fun _ _=>rfl) (fun i hi=>by rw[if_pos hi]),S1,Ts1,hb,fun i hi=>h.done i hi,h.room⟩,F',h.at_,h.pag,h.keep⟩
theorem Ris.ids{l:List OpD}(h:Ris l):l.Pairwise (fun a b=>a.id≠b.id):=h.imp (fun q e=>by omega)
theorem V8t{l:List OpD}(h:Ris l)(o x:OpD):x∈wiO l o↔x=o∨(x∈l∧x.id≠o.id):=by
 rw[X8h]
 have ht:∀x∈l.takeWhile (fun x=>decide (x.id<o.id)),x.id<o.id:=fun x hx=>by
  have:=List.all_takeWhile (p:=fun x:OpD=>decide (x.id<o.id)) (l:=l)
  rw[List.all_eq_true]at this
  exact of_decide_eq_true (this x hx)
 have hl:x∈l↔x∈l.takeWhile (fun x=>decide (x.id<o.id))∨x∈l.dropWhile (fun x=>decide (x.id<o.id)):=by
  rw[←List.mem_append,List.takeWhile_append_dropWhile]
 rw[List.mem_append,List.mem_append,List.mem_singleton,List.mem_filter,hl]
 constructor
 ·rintro((h1 | h1) | ⟨h1,h2⟩)
  ·exact .inr ⟨.inl h1,by have:=ht x h1;omega⟩
  ·exact .inl h1
  ·exact .inr ⟨.inr h1,by simpa using h2⟩
 ·rintro(h1 | ⟨h1 | h1,h2⟩)
  ·exact .inl (.inr h1)
  ·exact .inl (.inl h1)
  ·exact .inr ⟨h1,by simpa using h2⟩
theorem V7l{l:List OpD}(h:Ris l)(id:Int):Ris (delO l id):=List.Pairwise.filter _ h
theorem Tab.list{S:StoreD}{Ts:Nat→TrD}{l r:List OpD}(h:Tab S Ts (fun _=>l))(hr:Ris r)(hm:∀x,x∈r↔x∈l):Tab S Ts (fun _=>r):=
 ⟨h.fm,h.tr,h.disj,fun i hi o ho=>h.ok i hi o ((hm o).1 ho),fun _ _=>hr.ids,fun i hi x=>(h.mem i hi x).trans ⟨fun ⟨o,q1,q2⟩=>⟨o,(hm o).2 q1,q2⟩,fun⟨o,q1,q2⟩=>⟨o,(hm o).1 q1,q2⟩⟩⟩
theorem PutB.list{S0 S:StoreD}{Ts0 Ts:Nat→TrD}{l:List OpD}{o:OpD}(h:PutB S0 Ts0 l o S Ts)(hr:Ris l):Tab S Ts (fun _=>wiO l o):=
 h.tab.list (X8g l o hr) (fun x=>by rw[V8t hr,List.mem_cons,Z9m])
def allD:TrD→List ByteArray
 | .no=> []
 | .yes d t=>allT d t
def Slim(T:TrD):Prop:=∀x∈allD T,x.size≤24
def potT:TrD→Nat
 | .no=>0
 | .yes 0 _=>1
 | .yes (d+1) t=>1+9*d+min (InT.keys t).length 9
theorem X4a(T:TrD):9*T.need≤potT T+26:=by
 cases T with
 | no=>show 9*1≤0+26;omega
 | yes d t=>
   cases d with
   | zero=>show 9*2≤1+26;omega
   | succ d=>show 9*(d+1+2)≤1+9*d+min _ 9+26;omega
theorem Y9q{d:Nat}{S S':StoreD}{t t':TT (d+1)}{k v:ByteArray}{o:Option (ByteArray×TT (d+1))}(h:PutR (d+1) S t k v S' t' o)(hf:Fm S)(hon:onT S (d+1) t)(hok:okT (d+1) t)(hk:Z3w k)(hv:v.size≤80)(hnd:(Z0a (d+1) t).Nodup)(hk24:k.size≤24)(hs:∀x∈allT (d+1) t,x.size≤24):
  (o=none→(InT.keys t').length≤(InT.keys t).length+1)∧(o≠none→9≤(InT.keys t).length):=by
 obtain⟨c,hc,S1,c',o1,h1,h2⟩:=h
 have hcm:c∈InT.kids t:=List.mem_of_getElem? hc
 obtain⟨F1,q⟩:=Z7k d h1 hf (hon.2 c hcm) (hok.2.2.2.1 c hcm) hk hv ((Z1d hnd).1 c hcm).2
 have hsk:∀x∈InT.keys t,x.size≤24:=fun x hx=>hs x (List.mem_append_left _ hx)
 have hsc:∀x∈allT d c,x.size≤24:=fun x hx=>hs x (List.mem_append_right _ (List.mem_flatMap.2 ⟨c,hcm,hx⟩))
 have hkl:=hok.2.1
 cases o1 with
 | none=>
   obtain⟨_,rfl,rfl⟩:=h2
   exact⟨fun _=>Nat.le_succ _,fun q=>absurd rfl q⟩
 | some x=>
   have hx24:x.1.size≤24:=by
    rcases(q.right x.1 x.2 rfl).key with e | e
    ·rw[e];exact hk24
    ·exact hsc _ e
   obtain⟨y,hcd,hy⟩:=h2
   have hlen:(insL (InT.keys t) (Z0f (InT.keys t) k) x.1).length=(InT.keys t).length+1:=Z0y _ _ _
   cases y with
   | none=>
     obtain⟨rfl,rfl⟩:=hy
     exact⟨fun _=>Nat.le_of_eq hlen,fun q=>absurd rfl q⟩
   | some y=>
     obtain⟨m,r⟩:=y
     obtain⟨mid,_,rfl,rfl⟩:=hy
     refine⟨(fun q=>by cases q),fun _=> ?_⟩
     have hbig:256<Z0k (Z0c (d+1) (InT.mk (InT.at_ t) (insL (InT.keys t) (Z0f (InT.keys t) k) x.1) (insL ((InT.kids t).set (Z0f (InT.keys t) k) c') (Z0f (InT.keys t) k+1) x.2))):=hcd.1
     have hsz:Z0k (Z0c (d+1) (InT.mk (InT.at_ t) (insL (InT.keys t) (Z0f (InT.keys t) k) x.1) (insL ((InT.kids t).set (Z0f (InT.keys t) k) c') (Z0f (InT.keys t) k+1) x.2)))=2+2*((insL ((InT.kids t).set (Z0f (InT.keys t) k) c') (Z0f (InT.keys t) k+1) x.2).map (fun c=>(atT d c:Int))).length+Z0l (insL (InT.keys t) (Z0f (InT.keys t) k) x.1)+Z0l []:=rfl
     rw[hsz,List.length_map,Z0y,List.length_set,hkl]at hbig
     have hm:=Z3i (l:=insL (InT.keys t) (Z0f (InT.keys t) k) x.1) (q:=24) (fun y hy=>by
      rcases Z7m hy with e | e
      ·rw[e];exact hx24
      ·exact hsk y e)
     rw[hlen]at hm
     have:Z0l []=0:=rfl
     omega
theorem V9h{S S':StoreD}{i:Nat}{k v:ByteArray}{T T':TrD}(h:Y8q S i k v S' T' T)(hf:Fm S)(ht:TrS S i T)(hk:Z3w k)(hv:v.size≤80)(hk24:k.size≤24)(hs:Slim T):potT T'≤potT T+1∧Slim T':=by
 cases T with
 | no=>
   obtain⟨a,_,_,rfl⟩:=h
   refine⟨Nat.le_refl _,fun x hx=> ?_⟩
   have:x∈ [k]:=hx
   rw[List.mem_singleton]at this
   rw[this];exact hk24
 | yes d t=>
   obtain⟨_,hon,hok,hnd⟩:=ht
   obtain⟨S1,t',o,h1,h2⟩:=h
   obtain⟨F,q⟩:=Z7k d h1 hf hon hok hk hv hnd
   have hA:∀x,(x=k∨x∈allT d t)→x.size≤24:=fun x hx=>by
    rcases hx with e | e
    ·rw[e];exact hk24
    ·exact hs x e
   cases o with
   | none=>
     obtain⟨_,rfl⟩:=h2
     refine⟨?_,fun x hx=>hA x (q.all x hx)⟩
     cases d with
     | zero=>show 1≤1+1;omega
     | succ d=>
       have:=(Y9q h1 hf hon hok hk hv hnd hk24 hs).1 rfl
       show 1+9*d+min (InT.keys t').length 9≤1+9*d+min (InT.keys t).length 9+1
       omega
   | some x=>
     obtain⟨mid,r⟩:=x
     obtain⟨top,_,_,rfl⟩:=h2
     have hR:=q.right mid r rfl
     refine⟨?_,fun y hy=> ?_⟩
     ·show 1+9*d+min 1 9≤_
      cases d with
      | zero=>show 1+9*0+min 1 9≤1+1;omega
      | succ d=>
        have:=(Y9q h1 hf hon hok hk hv hnd hk24 hs).2 (by intro e;cases e)
        show 1+9*(d+1)+min 1 9≤1+9*d+min (InT.keys t).length 9+1
        omega
     ·have hy':y∈ [mid]++ [t',r].flatMap (allT d):=hy
      rw[List.mem_append,List.mem_singleton,List.mem_flatMap]at hy'
      rcases hy' with e | ⟨z,hz,e⟩
      ·rw[e];exact hA _ hR.key
      ·rcases List.mem_cons.1 hz with rfl | hz
       ·exact hA _ (q.all y e)
       ·rw[List.mem_singleton]at hz
        subst hz
        exact hA _ (hR.all y e)
theorem X9i(i:Nat):∀(d:Nat) {S S':StoreD} {t:TT d} {T':TrD},ShrR i d S t S' T'→potT T'≤potT (.yes d t)∧∀x∈allD T',x∈allT d t
 | 0,_,_,_,_,h=>by
   obtain⟨_,rfl⟩:=h
   exact⟨Nat.le_refl _,fun x hx=>hx⟩
 | d+1,_,_,t,_,h=>by
   rcases h with ⟨_,_,rfl⟩ | ⟨c,hc,h⟩
   ·exact⟨Nat.le_refl _,fun x hx=>hx⟩
   ·obtain⟨h1,h2⟩:=X9i i d h
    refine⟨Nat.le_trans h1 ?_,fun x hx=> ?_⟩
    ·cases d with
     | zero=>show 1≤1+9*0+_;omega
     | succ d=>show 1+9*d+min _ 9≤1+9*(d+1)+min _ 9;omega
    ·show x∈InT.keys t++(InT.kids t).flatMap (allT d)
     rw[hc]
     exact List.mem_append_right _ (List.mem_flatMap.2 ⟨c,List.mem_singleton.2 rfl,h2 x hx⟩)
theorem X9a{d:Nat}{S S':StoreD}{t t':TT (d+1)}{k:ByteArray}(h:Y1w (d+1) S t k S' t'):(InT.keys t').length≤(InT.keys t).length:=by
 obtain⟨c,_,S1,c',_,h⟩:=h
 rcases h with ⟨_,_,rfl⟩ | ⟨_,a,b,s,_,_,_,⟨_,_,rfl⟩ | ⟨_,_,rfl⟩⟩
 ·exact Nat.le_refl _
 ·exact Nat.le_refl _
 ·exact List.length_eraseIdx_le _ _
theorem V9i{S S':StoreD}{i:Nat}{k:ByteArray}{T T':TrD}(h:Y1d S i k S' T' T)(hf:Fm S)(ht:TrS S i T)(hk:∃x∈T.list,x.1=k)(hs:Slim T):potT T'≤potT T∧Slim T':=by
 cases T with
 | no=>exact h.elim
 | yes d t=>
   obtain⟨_,hon,hok,hnd⟩:=ht
   obtain⟨S1,t1,htk,h⟩:=h
   obtain⟨G1,hl⟩:=Z6k d htk hf hon hok ((Z9f d t hok k).2 hk) hnd
   rcases h with ⟨_,_,rfl⟩ | ⟨_,h⟩
   ·exact⟨Nat.zero_le _,fun x hx=>by cases hx⟩
   ·obtain⟨h1,h2⟩:=X9i i d h
    refine⟨Nat.le_trans h1 ?_,fun x hx=>hs x (hl.all x (h2 x hx))⟩
    cases d with
    | zero=>exact Nat.le_refl _
    | succ d=>
      have:=X9a htk
      show 1+9*d+min (InT.keys t1).length 9≤1+9*d+min (InT.keys t).length 9
      omega
def Y2w:Nat→Nat
 | 0=>0
 | t+1=>Y2w t+5*((t+26)/9)
theorem Z9z:∀ {a b:Nat},a≤b→Y2w a≤Y2w b
 | a,0,h=>by rw[Nat.le_zero.1 h];exact Nat.le_refl _
 | a,b+1,h=>by
   by_cases e:a=b+1
   ·rw[e];exact Nat.le_refl _
   ·have:=Z9z (show a≤b by omega)
    show Y2w a≤Y2w b+_
    omega
structure TabI (c:Nat) (S:StoreD) (Ts:Nat→TrD) (l:List OpD) (t:Nat):Prop where
 tab:Tab S Ts (fun _=>l)
 ris:Ris l
 pot:∀i,i<5→potT (Ts i)≤t
 slim:∀i,i<5→Slim (Ts i)
 room:c≤Z1g S+Y2w t
theorem Y3r{Ts:Nat→TrD}{t:Nat}(h:∀i,i<5→potT (Ts i)≤t):∀k,k≤5→Z6f Ts k≤k*((t+26)/9)
 | 0,_=>Nat.zero_le _
 | k+1,hk=>by
   have h1:=Y3r h k (by omega)
   have h2:=X4a (Ts k)
   have h3:=h k (by omega)
   have h4:(Ts k).need≤(t+26)/9:=by omega
   show Z6f Ts k+(Ts k).need≤_
   rw[Nat.succ_mul]
   omega
theorem TabI.dep{c:Nat}{S:StoreD}{Ts:Nat→TrD}{l:List OpD}{t:Nat}(h:TabI c S Ts l t)(ht:t≤40)(i:Nat)(hi:i<5):depT (Ts i)≤31:=by
 have h1:=X4a (Ts i)
 have h2:=h.pot i hi
 rw[Y7p]at h1
 omega
theorem TabI.enough{c:Nat}{S:StoreD}{Ts:Nat→TrD}{l:List OpD}{t:Nat}(h:TabI c S Ts l t)(ht:Y2w (t+1)≤c):Z6f Ts 5≤Z1g S:=by
 have h1:=Y3r h.pot 5 (Nat.le_refl _)
 have h4:Y2w (t+1)=Y2w t+5*((t+26)/9):=rfl
 have h5:=h.room
 omega
theorem TabI.more{c:Nat}{S:StoreD}{Ts:Nat→TrD}{l:List OpD}{t u:Nat}(h:TabI c S Ts l t)(hu:t≤u):TabI c S Ts l u:=
 ⟨h.tab,h.ris,fun i hi=>Nat.le_trans (h.pot i hi) hu,h.slim,by have:=Z9z hu;have:=h.room;omega⟩
theorem DelB.pot{S0 S:StoreD}{Ts0 Ts:Nat→TrD}{l:List OpD}{id:Int}{i:Nat}(h:DelB S0 Ts0 l id S Ts)(hi:i<5)(hs:Slim (Ts0 i)):potT (Ts i)≤potT (Ts0 i)∧Slim (Ts i):=by
 rcases h.done with ⟨rfl,_⟩ | ⟨o,_,hd⟩
 ·exact⟨Nat.le_refl _,hs⟩
 ·obtain⟨Sa,Sb,q1,q2,q3,q4⟩:=hd i hi
  exact V9i q4 q1 q2 q3 hs
theorem TabI.del{c:Nat}{S0 S:StoreD}{Ts0 Ts:Nat→TrD}{l:List OpD}{id:Int}{t:Nat}(h:TabI c S0 Ts0 l t)(hb:DelB S0 Ts0 l id S Ts):TabI c S Ts (delO l id) t:=
 ⟨hb.tab,V7l h.ris id,fun i hi=>Nat.le_trans (hb.pot hi (h.slim i hi)).1 (h.pot i hi),fun i hi=>(hb.pot hi (h.slim i hi)).2,by have:=hb.more.1;have:=h.room;omega⟩
theorem V8w(i:Nat)(o:OpD):(wayK i o).size≤24:=by
 unfold wayK
 rw[Z0j,Z1j]
 have:=Z3k i o
 omega
theorem TabI.put{c:Nat}{S0 S:StoreD}{Ts0 Ts:Nat→TrD}{l:List OpD}{o:OpD}{t:Nat}(h:TabI c S0 Ts0 l t)(ho:Z2u o=0)(hb:PutB S0 Ts0 l o S Ts):TabI c S Ts (wiO l o) (t+1):=by
 obtain⟨S1,Ts1,hd,hp,hr⟩:=hb.via
 have h1:=h.del hd
 have hpt:∀i,i<5→potT (Ts i)≤potT (Ts1 i)+1∧Slim (Ts i):=fun i hi=>by
  obtain⟨Sa,Sb,q1,q2,q3⟩:=hp i hi
  exact V9h q3 q1 q2 (X1d i o) (Y3b i (OpIn.of ho)) (V8w i o) (h1.slim i hi)
 refine⟨hb.list h.ris,X8g l o h.ris,fun i hi=> ?_,fun i hi=>(hpt i hi).2,?_⟩
 ·have:=(hpt i hi).1
  have:=h1.pot i hi
  omega
 ·have h2:=Y3r h1.pot 5 (Nat.le_refl _)
  have h3:=h1.room
  show c≤Z1g S+(Y2w t+5*((t+26)/9))
  omega
end Go.Proofs.YtmiolpfanlpfnaaGreat
