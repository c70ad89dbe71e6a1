/- A table's data: five trees of one list of operations (plain law). No program. -/
import Derived.Test.YtohaldfnmgcofaaGreatT23
set_option maxRecDepth 100000
set_option maxHeartbeats 8000000
set_option linter.unusedSimpArgs false
set_option linter.unusedVariables false
namespace Go.Proofs.YtohaldfnmgcofaaGreat
section
open Go.RowKit
def recW(i:Nat)(o:OpD):ByteArray:=if i=0 then bts (opL o)else⟨#[]⟩
theorem OpIn.way{o:OpD}(h:OpIn o)(i:Nat):∀x∈wayL i o,In64 x:=by
 have h1:=h.nums;have h2:=h.id;have h3:endI o<=1099511627777/\0<=endI o:=by
  unfold endI;split
  ·rename_i hd;have:=h.yes hd;have:=h.invoke;omega
  ·omega
 have hm:∀x∈opV o,In64 x:=fun x hx=>by have:=h1 x hx;unfold In64;omega
 unfold wayL;intro x hx;split at hx<;>simp only[List.mem_cons,List.not_mem_nil,or_false]at hx
 ·subst hx;exact hm _ (by simp[opV])
 ·rcases hx with rfl | rfl | rfl<;>exact hm _ (by simp[opV])
 ·rcases hx with rfl | rfl | rfl
  ·exact hm _ (by simp[opV])
  ·unfold In64;omega
  ·exact hm _ (by simp[opV])
 ·rcases hx with rfl | rfl | rfl<;>exact hm _ (by simp[opV])
 ·rcases hx with rfl | rfl<;>exact hm _ (by simp[opV])
theorem Y3e(i:Nat)(o:OpD):(wayL i o).getLast? =some o.id:=by unfold wayL;split<;>rfl
theorem Z8c{i:Nat}{a b:OpD}(ha:∀x∈wayL i a,In64 x)(hb:∀x∈wayL i b,In64 x)(h:wayK i a=wayK i b):a.id=b.id:=by have:=X5c ha hb h;have h1:=Y3e i a;rw[this,Y3e i b]at h1;injection h1 with h1;exact h1.symm
theorem Z9w(i:Nat){o:OpD}(h:OpIn o):(recW i o).size<=80:=by
 unfold recW;split
 ·rw[Z0e];have:=V1s h;omega
 ·simp[ByteArray.size]
theorem X0y{l:List KV}(h:Z6w l)(k v:ByteArray)(x:KV):x∈Z6u l k v↔x=(k,v)\/(x∈l/\x.1≠k):=by
 unfold Z6u;rw[List.mem_append,List.mem_cons,List.mem_filter,List.mem_filter];constructor
 ·rintro(⟨h1,h2⟩ | h1 | ⟨h1,h2⟩)
  ·exact .inr ⟨h1,Z2l h2⟩
  ·exact .inl h1
  ·exact .inr ⟨h1,fun e=>Z2l h2 e.symm⟩
 ·rintro(h1 | ⟨h1,h2⟩)
  ·exact .inr (.inl h1)
  ·cases hlt:ltB x.1 k with
   | true=>exact .inl ⟨h1,rfl⟩
   | false=>
     cases hgt:ltB k x.1 with
     | true=>exact .inr (.inr ⟨h1,rfl⟩)
     | false=>exact absurd (Y8h hlt hgt) h2
def updF{α:Type}(f:Nat->α)(i:Nat)(v:α):Nat->α:=fun j=>if j=i then v else f j
theorem Z0p{α:Type}(f:Nat->α)(i:Nat)(v:α):updF f i v i=v:=by unfold updF;rw[if_pos rfl]
theorem Z0i{α:Type}(f:Nat->α){i j:Nat}(v:α)(h:j≠i):updF f i v j=f j:=by unfold updF;rw[if_neg h]
def depT:TrD->Nat
 | .no=>0
 | .yes d _=>d+1
theorem Y0b(T:TrD):T.need=depT T+1:=by cases T<;>rfl
theorem Z4a{T:TrD}(h:depT T<=31):T.fine:=by cases T with
 | no=>trivial
 | yes d t=>have:d+1<=31:=h;show d<31;omega
theorem X0d{S S':StoreD}{i:Nat}{k v:ByteArray}{T T':TrD}(h:Y0r S i k v S' T' T):depT T'<=depT T+1:=by
 cases T with
 | no=>obtain⟨a,_,_,rfl⟩:=h;exact aF _
 | yes d t=>
   obtain⟨S1,t',o,_,hm⟩:=h;cases o with
   | none=>obtain⟨_,rfl⟩:=hm;exact Nat.le_succ _
   | some x=>obtain⟨top,_,_,rfl⟩:=hm;exact aF _
structure Tab (S:StoreD) (Ts:Nat->TrD) (L:Nat->List OpD):Prop where
 fm:Fm S
 tr:∀i,i<5->TrS S i (Ts i)
 disj:∀i j,i<5->j<5->i≠j->∀b∈(Ts i).pages,b∉(Ts j).pages
 ok:∀i,i<5->∀o∈L i,Z1p o=0
 ids:∀i,i<5->(L i).Pairwise (fun a b=>a.id≠b.id)
 mem:∀i,i<5->∀x:KV,x∈(Ts i).list↔∃o∈L i,x=(wayK i o,recW i o)
theorem Tab.put{S S':StoreD}{Ts:Nat->TrD}{L:Nat->List OpD}{i:Nat}{o:OpD}{T':TrD}{F:List Nat}(h:Tab S Ts L)(hi:i<5)(ho:Z1p o=0)(hn:∀x∈L i,x.id≠o.id)(hp:PutTL S i (Ts i) (wayK i o) (recW i o) S' T' F):Tab S' (updF Ts i T') (updF L i (o::L i)):=by
 have hfr:∀j,j<5->∀b∈(Ts j).pages,b∉F:=fun j hj b hb q=>by have h1:=((h.tr j hj).given b hb).2.2;rw[(hp.fresh b q).1]at h1;cases h1
 refine⟨h.fm.big hp.big (fun b q=>by cases q),fun j hj=> ?_,fun j k hj hk hne b hb=> ?_,fun j hj x hx=> ?_,fun j hj=> ?_,fun j hj x=> ?_⟩
 ·by_cases e:j=i
  ·subst e;rw[Z0p];exact hp.tr
  ·rw[Z0i _ _ e];exact TrS.other hp.big (by omega) e (h.tr j hj) (fun b hb=>⟨fun q=>h.disj j i hj hi e b hb q,hfr j hj b hb,by simp⟩)
 ·by_cases e:j=i
  ·subst e;rw[Z0p]at hb;rw[Z0i _ _ (Ne.symm hne)];rcases List.mem_append.1 (hp.pages.mem_iff.1 hb)with q | q
   ·exact h.disj j k hj hk hne b q
   ·exact fun r=>hfr k hk b r q
  ·rw[Z0i _ _ e]at hb;by_cases e2:k=i
   ·subst e2;rw[Z0p];intro q;rcases List.mem_append.1 (hp.pages.mem_iff.1 q)with q | q
    ·exact h.disj j k hj hk hne b hb q
    ·exact hfr j hj b hb q
   ·rw[Z0i _ _ e2];exact h.disj j k hj hk hne b hb
 ·by_cases e:j=i
  ·subst e;rw[Z0p]at hx;rcases List.mem_cons.1 hx with rfl | hx
   ·exact ho
   ·exact h.ok j hj x hx
  ·rw[Z0i _ _ e]at hx;exact h.ok j hj x hx
 ·by_cases e:j=i
  ·subst e;rw[Z0p];exact List.pairwise_cons.2 ⟨fun x hx=>(hn x hx).symm,h.ids j hj⟩
  ·rw[Z0i _ _ e];exact h.ids j hj
 ·by_cases e:j=i
  ·subst e;rw[Z0p,Z0p,hp.list,X0y (h.tr j hj).rise];constructor
   ·rintro(rfl | ⟨h1,h2⟩)
    ·exact⟨o,List.mem_cons_self,rfl⟩
    ·obtain⟨y,hy,rfl⟩:=(h.mem j hj x).1 h1;exact⟨y,List.mem_cons_of_mem _ hy,rfl⟩
   ·rintro⟨y,hy,rfl⟩;rcases List.mem_cons.1 hy with rfl | hy
    ·exact .inl rfl
    ·refine .inr ⟨(h.mem j hj _).2 ⟨y,hy,rfl⟩,fun q=>hn y hy ?_⟩;exact Z8c (OpIn.way (OpIn.of (h.ok j hj y hy)) j) (OpIn.way (OpIn.of ho) j) q
  ·rw[Z0i _ _ e,Z0i _ _ e];exact h.mem j hj x
theorem Tab.congr{S:StoreD}{Ts Ts':Nat->TrD}{L L':Nat->List OpD}(h:Tab S Ts L)(h1:∀i,i<5->Ts' i=Ts i)(h2:∀i,i<5->L' i=L i):Tab S Ts' L':=
 ⟨h.fm,fun i hi=>by rw[h1 i hi];exact h.tr i hi,fun i j hi hj hn=>by rw[h1 i hi,h1 j hj];exact h.disj i j hi hj hn,fun i hi=>by rw[h2 i hi];exact h.ok i hi,fun i hi=>by rw[h2 i hi];exact h.ids i hi,fun i hi=>by rw[h1 i hi,h2 i hi];exact h.mem i hi⟩
def Z4y(Ts:Nat->TrD):Nat->Nat
 | 0=>0
 | k+1=>Z4y Ts k+(Ts k).need
theorem Tab.putR{S S':StoreD}{Ts:Nat->TrD}{L:Nat->List OpD}{i:Nat}{o:OpD}{T':TrD}(h:Tab S Ts L)(hi:i<5)(ho:Z1p o=0)(hn:∀x∈L i,x.id≠o.id)(hp:Y0r S i (wayK i o) (recW i o) S' T' (Ts i)):
  Tab S' (updF Ts i T') (updF L i (o::L i))/\Z0z S<=Z0z S'+(Ts i).need:=by
 obtain⟨F,hl⟩:=Z9x (by omega) hp h.fm (h.tr i hi) (Z6y i o) (Z9w i (OpIn.of ho));refine⟨h.put hi ho hn hl,?_⟩;have:=Y9v hl.big.used hl.big.head hl.nd (fun b hb=>⟨(hl.fresh b hb).1,(hl.fresh b hb).2.2⟩);have:=hl.len;omega
def opId(id:Int):OpD:=⟨id,0,0,0,0,0,0,false,0,0,0⟩
theorem Tab.get{S:StoreD}{Ts:Nat->TrD}{L:Nat->List OpD}(h:Tab S Ts L){id:Int}(hid:In64 id):Y1v (Ts 0).list (wayK 0 (opId id))=(getL (L 0) id).map (fun o=>bts (opL o)):=by
 have hin:∀x∈wayL 0 (opId id),In64 x:=fun x hx=>by
  have:x=id:=by simpa [wayL,opId]using hx
  rw[this];exact hid
 cases hg:getL (L 0) id with
 | none=>
   refine Y6p (fun x hx e=> ?_);obtain⟨y,hy,rfl⟩:=(h.mem 0 (by omega) x).1 hx;have h1:y.id=id:=Z8c (OpIn.way (OpIn.of (h.ok 0 (by omega) y hy)) 0) hin e;unfold getL at hg;rw[List.find?_eq_none]at hg;have:=hg y hy;simp[h1]at this
 | some o=>
   unfold getL at hg;have h1:o.id=id:=by have:=List.find?_some hg;simpa using this
   have h2:=List.mem_of_find?_eq_some hg;refine Y1u (h.tr 0 (by omega)).rise ((h.mem 0 (by omega) _).2 ⟨o,h2,?_⟩);have e1:wayK 0 (opId id)=wayK 0 o:=by unfold wayK wayL;rw[h1];rfl
   rw[e1];rfl
structure Begun (w:World) (p:Nat) (F:Nat->Prop) (n room:Nat) (w':World):Prop where
 pag:PagerAt w' p F (Z1j n room)
 ext:Ext w w'
 new:∀i,F i->w.heap.size<=i
theorem Keeps.fresh{F F':Nat->Prop}{w w1 w2:World}(h:Keeps F F' w1 w2)(hx:Ext w w1)(hF:∀i,F i->w.heap.size<=i):Ext w w2/\∀i,F' i->w.heap.size<=i:=by
 refine⟨((Only.of (F:=fun _=>False) hx).trans h.only (fun i q=> .inr (hF i q))).toExt (fun _ q=>q.elim),fun i q=> ?_⟩;rcases h.new i q with r | r
 ·exact hF i r
 ·have:=hx.size;omega
theorem Y5h(w:World):
  cQ 23 #[] w fun e w'=>∃d p tb ts F,e= .returned (.tuple #[tp d,tp p,tp tb])/\TblAt w' tb p ts F/\Begun w p F 1800 860 w'/\w.heap.size<=tb:=by
 have cN:cQ 55 #[.int .i64 1800] w _:=X3d 1800 w (by omega) (by omega);have cF:Hid (∀W (g:Nat) (F1:Nat->Prop),DiskAt W g F1 (newD 1800)->cQ 56 #[tp g,.int .i64 860] W fun e w'=>e= .returned (.int .i64 0)/\∃F',DiskAt w' g F' (fmtD 1800 860 (pgN 1800 860))/\Keeps F1 F' W w'):=fun W g F1 hW=>X8f 1800 860 (pgN 1800 860) W hW (by omega) (by omega) (by omega) rfl;have cO:Hid (∀W (g:Nat) (F2:Nat->Prop),DiskAt W g F2 (fmtD 1800 860 (pgN 1800 860))->cQ 57 #[tp g] W fun e w'=>∃s F',e= .returned (.tuple #[tp s,.int .i64 0])/\StoreAt w' s F' (Y6q 1800 860)/\Keeps F2 F' W w'/\W.heap.size<=s):=fun W g F2 hW=>X6u (Z5c 1800 860) W hW rfl (by rw[V3q];omega) (X8d (by omega) (by omega) (by omega)) (X0z (by omega) (by omega) (by omega)) rfl;have cP:Hid (∀W (s:Nat) (F2:Nat->Prop),StoreAt W s F2 (Y6q 1800 860)->cQ 58 #[tp s] W fun e w'=>∃p F',e= .returned (.tuple #[tp p,.int .i64 0])/\PagerAt w' p F' (Y6q 1800 860)/\Keeps F2 F' W w'/\W.heap.size<=p):=fun W s F2 hW=>X0h W hW (X7c 1800 860) (by decide);have cG:Hid (∀W (p:Nat) (F2:Nat->Prop),PagerAt W p F2 (Y6q 1800 860)->cQ 59 #[tp p] W fun e w'=>e= .returned (.int .i64 0)/\∃F',PagerAt w' p F' (Z1j 1800 860)/\Keeps F2 F' W w'):=fun W p F2 hW=>X2g W hW;go_enter Tryz.func23,Tryz.ntmps23;go_wp2_with (first | (go_at_call 55;(with_reducible refine cN.mono ?_);clear cN;rintro e w1 ⟨g,F1,rfl,hd1,hx1,hn1⟩;have HX1:=hD hx1;have HN1:=hD hn1;have HD1:=hD hd1;clear hx1 hn1 hd1) | (go_at_call 56;(with_reducible refine(cF.out _ _ _ HD1.out).mono ?_);clear cF;rintro e w2 ⟨rfl,F2,hd2,hk2⟩;have HK2:=hD hk2;have HD2:=hD hd2;clear hk2 hd2) | (go_at_call 57;(with_reducible refine(cO.out _ _ _ HD2.out).mono ?_);clear cO;rintro e w3 ⟨s,F3,rfl,hs3,hk3,hz3⟩;have HK3:=hD hk3;have HS3:=hD hs3;clear hk3 hs3 hz3) | (go_at_call 58;(with_reducible refine(cP.out _ _ _ HS3.out).mono ?_);clear cP;rintro e w4 ⟨p,F4,rfl,hp4,hk4,hz4⟩;have HK4:=hD hk4;have HP4:=hD hp4;clear hk4 hp4 hz4) | (go_at_call 59;(with_reducible refine(cG.out _ _ _ HP4.out).mono ?_);clear cG;rintro e w5 ⟨rfl,F5,hp5,hk5⟩;have HK5:=hD hk5;have HP5:=hD hp5;clear hk5 hp5;have cT:=X1y w5 HP5.out) | (go_at_call 65;(with_reducible refine cT.mono ?_);clear cT;rintro e w6 ⟨tb,ts,F6,rfl,ht6,hp6,hk6,hz6⟩))
 go_ret3
 have h1:=((((HK2.out.trans HK3.out).trans HK4.out).trans HK5.out).trans hk6).fresh HX1.out HN1.out;have h2:=Nat.le_trans (Nat.le_trans (Nat.le_trans (Nat.le_trans HX1.out.size HK2.out.only.size) HK3.out.only.size) (Nat.le_trans HK4.out.only.size HK5.out.only.size)) hz6;exact⟨g,p,tb,ts,F6,rfl,ht6,⟨hp6,h1.1,h1.2⟩,h2⟩
def getR:Option OpD->Value
 | some o=> .tuple #[o.val,.int .i64 0]
 | none=> .tuple #[opZero.val,.int .i64 6]
theorem TblAt.keep{w w':World}{tb p:Nat}{ts:Nat->Nat}{F F':Nat->Prop}(h:TblAt w tb p ts F)(hk:Keeps F F' w w'):TblAt w' tb p ts F':=
 ⟨hk.only.row h.row h.out,fun j hj=>hk.only.row (h.tree j hj) (h.outs j hj),hk.out h.row.lt h.out,fun j hj=>hk.out (h.tree j hj).lt (h.outs j hj)⟩
theorem TblAt.ext{w w':World}{tb p:Nat}{ts:Nat->Nat}{F:Nat->Prop}(h:TblAt w tb p ts F)(hk:Ext w w'):TblAt w' tb p ts F:=h.keep (Keeps.of hk)
theorem Y1n(w:World)(B:Nat)(v0 v1 v2 v3 v4 v5 v6 v7 v8 v9 v10:Value):Only (fun i=>i=B) w (((((((((((w.setCell ⟨B,0,none⟩ v0).setCell ⟨B,1,none⟩ v1).setCell ⟨B,2,none⟩ v2).setCell ⟨B,3,none⟩ v3).setCell ⟨B,4,none⟩ v4).setCell ⟨B,5,none⟩ v5).setCell ⟨B,6,none⟩ v6).setCell ⟨B,7,none⟩ v7).setCell ⟨B,8,none⟩ v8).setCell ⟨B,9,none⟩ v9).setCell ⟨B,10,none⟩ v10):=(((((((((((Only.refl.setCell (F:=fun i=>i=B) (p:=⟨B,0,none⟩) (.inl rfl) v0).setCell (F:=fun i=>i=B) (p:=⟨B,1,none⟩) (.inl rfl) v1).setCell (F:=fun i=>i=B) (p:=⟨B,2,none⟩) (.inl rfl) v2).setCell (F:=fun i=>i=B) (p:=⟨B,3,none⟩) (.inl rfl) v3).setCell (F:=fun i=>i=B) (p:=⟨B,4,none⟩) (.inl rfl) v4).setCell (F:=fun i=>i=B) (p:=⟨B,5,none⟩) (.inl rfl) v5).setCell (F:=fun i=>i=B) (p:=⟨B,6,none⟩) (.inl rfl) v6).setCell (F:=fun i=>i=B) (p:=⟨B,7,none⟩) (.inl rfl) v7).setCell (F:=fun i=>i=B) (p:=⟨B,8,none⟩) (.inl rfl) v8).setCell (F:=fun i=>i=B) (p:=⟨B,9,none⟩) (.inl rfl) v9).setCell (F:=fun i=>i=B) (p:=⟨B,10,none⟩) (.inl rfl) v10)
theorem Y0x{tb p:Nat}{ts:Nat->Nat}{F:Nat->Prop}{S:StoreD}{Ts:Nat->TrD}{L:Nat->List OpD}(id:Int)(w:World)(ht:TblAt w tb p ts F)(hp:PagerAt w p F S)(hT:Tab S Ts L)(hd:depT (Ts 0)<=31)(hid:In64 id):
  cQ 72 #[tp tb,.int .i64 id] w fun e w'=>e= .returned (getR (getL (L 0) id))/\∃F',TblAt w' tb p ts F'/\PagerAt w' p F' S/\Keeps F F' w w':=by
 have hin:∀x∈wayL 0 (opId id),In64 x:=fun x hx=>by
  have:x=id:=by simpa [wayL,opId]using hx
  rw[this];exact hid
 have HS0:=hD (show PagerAt w p (fun i=>F i/\i<w.heap.size) S from hp.shrink);have HT0:Hid (TblAt w tb p ts (fun i=>F i/\i<w.heap.size)):=⟨ht.row,ht.tree,fun q=>ht.out q.1,fun j hj q=>ht.outs j hj q.1⟩;have HWID:Hid (∀(F':Nat->Prop) (w':World),Keeps (fun i=>F i/\i<w.heap.size) F' w w'->Keeps F F' w w'):=fun F' w' h=>h.widen (fun i q=>q.1);have HLT:Hid (¬(fun i=>F i/\i<w.heap.size) w.heap.size):=fun q=>absurd q.2 (Nat.lt_irrefl _);generalize (fun i=>F i/\i<w.heap.size)=F0 at *;clear hp ht;have cM:Hid (∀W,Ext w W->cQ 85 #[tp tb] W fun e w'=>e= .returned (.bool true)/\W=w'):=fun W hW=>Z2v W (HT0.out.ext hW).row;have cW:Hid (∀W,cQ 89 #[.int .i64 0,.agg #[.int .i64 id,.int .i64 0,.int .i64 0,.int .i64 0,.int .i64 0,.int .i64 0,.int .i64 0,.bool false,.int .i64 0,.int .i64 0,.int .i64 0]] W fun e w'=>e= .returned (.string (wayK 0 (opId id)))/\Ext W w'):=fun W=>Z5q 0 (opId id) W (by omega) hin;have cG:Hid (∀W,Ext w W->cQ 77 #[.pointer (some ⟨ts 0,0,none⟩),.string (wayK 0 (opId id))] W fun e w'=>e= .returned (getV ((getL (L 0) id).map (fun o=>bts (opL o))))/\∃F',PagerAt w' p F' S/\Keeps F0 F' W w'):=fun W hW=>by have h1:=X3x (Ts 0) (wayK 0 (opId id)) W ((HT0.out.ext hW).tree 0 (by omega)) (HT0.out.outs 0 (by omega)) (HS0.out.ext hW) (by omega) (hT.tr 0 (by omega)) (Z4a hd);rwa [hT.get hid]at h1
 have HOK:Hid (∀o,getL (L 0) id=some o->Z1p o=0):=fun o ho=>hT.ok 0 (by omega) o (List.mem_of_find?_eq_some ho);clear hT hd hin;generalize wayK 0 (opId id)=ky at *;generalize getL (L 0) id=R at *;obtain⟨sv,ev,hgv,hrel⟩:∃sv ev,getV (R.map (fun o=>bts (opL o)))= .tuple #[.string sv,.int .i64 ev]/\((ev=0/\∃o,R=some o/\sv=bts (opL o))\/(ev=6/\R=none)):=by
  cases R with
  | none=>exact⟨_,_,rfl,.inr ⟨rfl,rfl⟩⟩
  | some o=>exact⟨_,_,rfl,.inl ⟨rfl,o,rfl,rfl⟩⟩
 rw[hgv]at cG;have HREL:=hD hrel;clear hrel hgv;obtain⟨W0,hW0⟩:∃W0,w.alloc (.cells #[.int .i64 0,.int .i64 0,.int .i64 0,.int .i64 0,.int .i64 0,.int .i64 0,.int .i64 0,.bool false,.int .i64 0,.int .i64 0,.int .i64 0] 73)=W0:=⟨_,rfl⟩;have HX0:Hid (Ext w W0):=by unfold Hid;rw[<-hW0];exact Ext.alloc _ _
 have HR0:Hid (Row1 W0 w.heap.size 73 opZero.cells):=by unfold Hid;rw[<-hW0];exact Row1.made w _ _
 have hc0:W0.cell? ⟨tb,0,none⟩=some (tp (ts 0)):=(HT0.out.ext HX0.out).row.cell 0;go_enter Tryz.func72,Tryz.ntmps72;go_upto_region 1 with fail;clear hW0;go_upto_region 3 with (go_at_call 85;(with_reducible refine(cM.out _ HX0.out).mono ?_);clear cM;rintro e w1 ⟨rfl,rfl⟩);refine wp_region_held_drew (S:=fun W=>W.cell? ⟨tb,0,none⟩=some (tp (ts 0))) (by kernel_rfl) (((HT0.out.ext HX0.out).ext (by exact Xt)).row.cell 0) (fun hHeld=> ?_);refine' tk 0 ?_;refine' tk 1 ?_;refine' tk 2 ?_;refine' tk 3 ?_;refine' tk 4 ?_;refine' tk 5 ?_;refine' tk 6 ?_;refine stp 7 (fun K hK=> ?_);go_simp
 (with_reducible refine(cW.out _).mono ?_)
 rintro e w1 ⟨rfl,hb1⟩;have HB1:Hid (Ext W0 w1):=Ext.trans (by exact Xt) hb1;clear hb1
 (try dsimp only)
 (try go_simp)
 refine hK.out _ _ ((((HT0.out.ext HX0.out).ext HB1.out).ext (by exact Xt)).row.cell 0) (fun hHeld=> ?_);clear hK K;refine pt ?_;refine stp 8 (fun K hK=> ?_);go_simp
 (with_reducible refine(cG.out _ ?_).mono ?_)
 ·exact HX0.out.trans (HB1.out.trans (by exact Xt))
 rintro e w2 ⟨rfl,F2,hp2,hk2⟩;have HP2:=hD hp2;have HK2:Hid (Keeps F0 F2 W0 w2):=Keeps.trans (Keeps.of (HB1.out.trans (by exact Xt))) hk2;clear hp2 hk2
 (try dsimp only)
 (try go_simp)
 refine hK.out _ _ ((HT0.out.keep ((Keeps.of HX0.out).trans HK2.out)).row.cell 0) (fun hHeld=> ?_);clear hK K;refine pt ?_;refine' tk 9 ?_;refine' tk 10 ?_;refine' tk 11 ?_;refine' tk 12 ?_;refine' tk 13 ?_;refine wpAnyH_done (by kernel_rfl) ?_ _;have HKW:Hid (Keeps F0 F2 w w2):=(Keeps.of HX0.out).trans HK2.out;have HR2:Hid (Row1 w2 w.heap.size 73 opZero.cells):=HK2.out.only.row HR0.out HLT.out;have HN2:Hid (¬F2 w.heap.size):=HK2.out.out HR0.out.lt HLT.out;have HDN:Hid (∀W',Ext w2 W'->∃F',TblAt W' tb p ts F'/\PagerAt W' p F' S/\Keeps F F' w W'):=fun W' hW=>⟨F2,(HT0.out.keep HKW.out).ext hW,HP2.out.ext hW,HWID.out _ _ (HKW.out.ext hW)⟩;have HSET:Hid (∀(W W':World),Ext w2 W->Only (fun i=>i=w.heap.size) W W'->∃F',TblAt W' tb p ts F'/\PagerAt W' p F' S/\Keeps F F' w W'):=fun W W' hW ho=>by
  have ht2:=(HT0.out.keep HKW.out).ext hW;have hne:∀j,j<5->ts j≠w.heap.size:=fun j hj e=>by have:=(HT0.out.tree j hj).lt;omega
  have hnt:tb≠w.heap.size:=fun e=>by have:=HT0.out.row.lt;omega
  refine⟨F2,⟨ho.row ht2.row hnt,fun j hj=>ho.row (ht2.tree j hj) (hne j hj),ht2.out,ht2.outs⟩,(HP2.out.ext hW).only ho (fun i q e=>HN2.out (e▸q)),HWID.out _ _ ⟨((HKW.out.ext hW).only.trans ho (fun i q=> .inr (by omega))),HKW.out.new⟩⟩
 clear cW cG;rcases HREL.out with ⟨rfl,o,rfl,rfl⟩ | ⟨rfl,rfl⟩
 ·have cD:Hid (∀W,cQ 88 #[.string (bts (opL o))] W fun e w'=>e= .returned (.tuple #[.agg #[.int .i64 o.id,.int .i64 o.proc,.int .i64 o.object,.int .i64 o.kind,.int .i64 o.method,.int .i64 o.arg,.int .i64 o.second,.bool o.done,.int .i64 o.result,.int .i64 o.invoke,.int .i64 o.ret],.int .i64 0])/\Ext W w'):=fun W=>Z7k o W (HOK.out o rfl);generalize hso:bts (opL o)=so at *;go_upto_region 6 with fail;go_wp2_with (go_at_call 88;(with_reducible refine(cD.out _).mono ?_);clear cD;rintro e w3 ⟨rfl,hb3⟩;have HB3:=hD hb3;clear hb3;have HR3:Hid (Row1 w3 w.heap.size 73 [.int .i64 0,.int .i64 0,.int .i64 0,.int .i64 0,.int .i64 0,.int .i64 0,.int .i64 0,.bool false,.int .i64 0,.int .i64 0,.int .i64 0]):=HR2.out.ext HB3.out HR2.out.lt;obtain⟨a0,a1,a2,a3,a4,a5,a6,a7,a8,a9,a10⟩:=Z1t HR3.out;obtain⟨f0,f1,f2,f3,f4,f5,f6,f7,f8,f9,f10⟩:=Z4r HR3.out);refine bodyPost_ret (X4h rfl _ _ w.heap.size o _ rfl rfl ?_) rfl ⟨rfl,?_⟩
  ·exact Z7d HR3.out _ _ _ _ _ _ _ _ _ _ _
  ·exact HSET.out _ _ HB3.out (Y1n _ _ _ _ _ _ _ _ _ _ _ _ _)
 ·obtain⟨a0,a1,a2,a3,a4,a5,a6,a7,a8,a9,a10⟩:=Z1t (show Row1 w2 w.heap.size 73 [.int .i64 0,.int .i64 0,.int .i64 0,.int .i64 0,.int .i64 0,.int .i64 0,.int .i64 0,.bool false,.int .i64 0,.int .i64 0,.int .i64 0]from HR2.out);obtain⟨f0,f1,f2,f3,f4,f5,f6,f7,f8,f9,f10⟩:=Z4r HR2.out;go_wp2_with fail;refine bodyPost_ret (X4h rfl _ _ w.heap.size opZero _ rfl rfl ?_) rfl ⟨rfl,?_⟩
  ·exact Z7d (show Row1 w2 w.heap.size 73 [.int .i64 0,.int .i64 0,.int .i64 0,.int .i64 0,.int .i64 0,.int .i64 0,.int .i64 0,.bool false,.int .i64 0,.int .i64 0,.int .i64 0]from HR2.out) _ _ _ _ _ _ _ _ _ _ _
  ·exact HSET.out _ _ (Ext.refl _) (Y1n _ _ _ _ _ _ _ _ _ _ _ _ _)
theorem Y3h{tb p:Nat}{ts:Nat->Nat}{F:Nat->Prop}{S:StoreD}{Ts:Nat->TrD}{L:Nat->List OpD}(id:Int)(w:World)(ht:TblAt w tb p ts F)(hp:PagerAt w p F S)(hT:Tab S Ts L)(hd:depT (Ts 0)<=31)(hid:In64 id)(hn:getL (L 0) id=none):
  cQ 71 #[tp tb,.int .i64 id] w fun e w'=>e= .returned (.int .i64 6)/\∃F',TblAt w' tb p ts F'/\PagerAt w' p F' S/\Keeps F F' w w':=by
 have cG:cQ 72 #[tp tb,.int .i64 id] w fun e w'=>e= .returned (.tuple #[.agg #[.int .i64 0,.int .i64 0,.int .i64 0,.int .i64 0,.int .i64 0,.int .i64 0,.int .i64 0,.bool false,.int .i64 0,.int .i64 0,.int .i64 0],.int .i64 6])/\∃F',TblAt w' tb p ts F'/\PagerAt w' p F' S/\Keeps F F' w w':=by have h1:=Y0x id w ht hp hT hd hid;rw[hn]at h1;exact h1
 clear ht hp hT hd hid hn;go_enter Tryz.func71,Tryz.ntmps71;go_wp2_with (go_at_call 72;(with_reducible refine cG.mono ?_);clear cG;rintro e w1 ⟨rfl,F1,ht1,hp1,hk1⟩;have HT1:=hD ht1;have HP1:=hD hp1;have HK1:=hD hk1;clear ht1 hp1 hk1);go_ret;exact⟨rfl,F1,HT1.out.ext (Ext.alloc _ _),HP1.out.ext (Ext.alloc _ _),HK1.out.ext (Ext.alloc _ _)⟩
def U1y(i:Nat)(o:OpD)(T T':TrD):Prop:=∃Sa Sb,Fm Sa/\TrS Sa i T/\Y0r Sa i (wayK i o) (recW i o) Sb T' T
structure PutK (tb p:Nat) (ts:Nat->Nat) (Ts0:Nat->TrD) (L:Nat->List OpD) (o:OpD) (R:Nat) (F0:Nat->Prop) (w:World) (k:Nat) (wr:World) (S:StoreD) (Ts:Nat->TrD) (F:Nat->Prop):Prop where
 at_:TblAt wr tb p ts F
 pag:PagerAt wr p F S
 keep:Keeps F0 F w wr
 tab:Tab S Ts (fun i=>if i<k then o::L i else L i)
 done:∀i,i<k->U1y i o (Ts0 i) (Ts i)
 same:∀i,k<=i->Ts i=Ts0 i
 room:R<=Z0z S+Z4y Ts0 k
theorem PutK.step{tb p:Nat}{ts:Nat->Nat}{Ts0:Nat->TrD}{L:Nat->List OpD}{o:OpD}{R:Nat}{F0 F F':Nat->Prop}{w wr w':World}{k:Nat}{S S':StoreD}{Ts:Nat->TrD}{T':TrD}(h:PutK tb p ts Ts0 L o R F0 w k wr S Ts F)(hk:k<5)(ho:Z1p o=0)(hn:∀x∈L k,x.id≠o.id)
 (hp:Y0r S k (wayK k o) (recW k o) S' T' (Ts k))(hp':PagerAt w' p F' S')(hkp:Keeps F F' wr w'):PutK tb p ts Ts0 L o R F0 w (k+1) w' S' (updF Ts k T') F':=by
 obtain⟨h1,h2⟩:=h.tab.putR hk ho (by rw[if_neg (Nat.lt_irrefl _)];exact hn) hp;refine⟨h.at_.keep hkp,hp',h.keep.trans hkp,h1.congr (fun i _=>rfl) (fun i _=> ?_),fun i hi=> ?_,fun i hi=> ?_,?_⟩
 ·by_cases e:i=k
  ·subst e;rw[Z0p,if_pos (by omega),if_neg (by omega)]
  ·rw[Z0i _ _ e];by_cases hl:i<k
   ·rw[if_pos hl,if_pos (by omega)]
   ·rw[if_neg hl,if_neg (by omega)]
 ·by_cases e:i=k
  ·subst e;rw[Z0p];exact⟨S,S',h.tab.fm,(h.same i (aF _))▸h.tab.tr i hk,(h.same i (aF _))▸hp⟩
  ·rw[Z0i _ _ e];exact h.done i (by omega)
 ·rw[Z0i _ _ (by omega)];exact h.same i (by omega)
 ·have:=h.room;rw[h.same k (aF _)]at h2;show _<=_+(Z4y Ts0 k+(Ts0 k).need);omega
theorem Y2v(Ts:Nat->TrD):∀(k m:Nat),k<m->Z4y Ts k+(Ts k).need<=Z4y Ts m
 | k,0,h=>absurd h (by omega)
 | k,m+1,h=>by
   show _<=Z4y Ts m+(Ts m).need;by_cases e:k=m
   ·subst e;exact aF _
   ·have:=Y2v Ts k m (by omega);omega
def ShrR(i:Nat):(d:Nat)->StoreD->TT d->StoreD->TrD->Prop
 | 0,S,t,S',T'=>S'=S/\T'= .yes 0 t
 | d+1,S,t,S',T'=>(1<(InT.kids t).length/\S'=S/\T'= .yes (d+1) t)\/∃c,InT.kids t= [c]/\ShrR i d (useP (Z0q S i (atT d c)) (InT.at_ t) false) c S' T'
def Z6q(S:StoreD)(l:List Nat):StoreD:=l.foldl (fun S b=>useP S b false) S
def Z8t(S:StoreD)(i:Nat)(k:ByteArray)(S':StoreD)(T':TrD):TrD->Prop
 | .no=>False
 | .yes d t=>∃S1 t1,Y2n d S t k S1 t1/\((Z0f d t1= []/\S'=Z6q (Z0q S1 i 0) (Z0a d t1)/\T'= .no)\/(Z0f d t1≠ []/\ShrR i d S1 t1 S' T'))
def depD:TrD->Nat
 | .no=>0
 | .yes d _=>d+1
structure DelTL (S:StoreD) (i:Nat) (T:TrD) (l:List KV) (S':StoreD) (T':TrD) (G:List Nat):Prop where
 big:Big i (fun b=>b∈T.pages) [] G S S'
 nd:G.Nodup
 back:∀b∈G,b∈T.pages
 tr:TrS S' i T'
 pages:(T'.pages++G).Perm T.pages
 list:T'.list=l
 dep:depD T'<=depD T
theorem Y4t:∀(l:List Nat) {S:StoreD},FullV S->(∀b∈l,b<2048)->Stp (fun _=>False) [] l S (Z6q S l)
 | [],S,hf,_=>Stp.refl hf |>.mono (fun _ q=>q)
 | b::r,S,hf,hl=>by have h1:=Y2q hf (hl b List.mem_cons_self);have h2:=Y4t r h1.full (fun x hx=>hl x (List.mem_cons_of_mem _ hx));have h3:=h1.trans (Q:=fun _=>False) h2 (fun b q=>by cases q) (fun b q=> .inl q);exact h3.mono (fun b q=>q.elim id id)
theorem V0g(i:Nat)(hi:i<16):∀(d:Nat) {S S':StoreD} {t:TT d} {T':TrD},ShrR i d S t S' T'->Fm S->onT S d t->okT d t->(Z0a d t).Nodup->Z1w S i=atT d t->
  ∃G,Big i (fun _=>False) [] G S S'/\TrS S' i T'/\(T'.pages++G).Perm (Z0a d t)/\T'.list=Z0f d t/\depD T'<=d+1
 | 0,S,S',t,T',h,hf,hon,hok,hnd,hr=>by
   obtain⟨rfl,rfl⟩:=h;exact⟨[],(Stp.refl hf.full |>.mono (fun _ q=>q)).big i,⟨hr,hon,hok,hnd⟩,by rw[List.append_nil];exact List.Perm.refl _,rfl,aF _⟩
 | d+1,S,S',t,T',h,hf,hon,hok,hnd,hr=>by
   rcases h with ⟨_,rfl,rfl⟩ | ⟨c,hc,h⟩
   ·exact⟨[],(Stp.refl hf.full |>.mono (fun _ q=>q)).big i,⟨hr,hon,hok,hnd⟩,by rw[List.append_nil];exact List.Perm.refl _,rfl,aF _⟩
   ·have hcm:c∈InT.kids t:=by rw[hc];exact List.mem_cons_self
    have hm:=hf.most;have hca:=(Z0l d c (hon.2 c hcm) _ (Z0r d c)).2.1;have hta:=hon.1.given;have hpg:Z0a (d+1) t=InT.at_ t::Z0a d c:=by show InT.at_ t::(InT.kids t).flatMap (Z0a d)=_;rw[hc];simp
    have hls:Z0f (d+1) t=Z0f d c:=by show(InT.kids t).flatMap (Z0f d)=_;rw[hc];simp
    rw[hpg,List.nodup_cons]at hnd;obtain⟨b1,hr1⟩:=Stp.setRoot (i:=i) (n:=atT d c) (Stp.refl hf.full |>.mono (P':=fun _=>False) (fun _ q=>q)) hi (by omega);have b2:=Y2q b1.full (n:=InT.at_ t) (by have:=hta.2.1;omega);have b12:=b1.trans (Q:=fun _=>False) (b2.big i) (fun b q=>by cases q) (fun b q=> .inl q);have hf2:Fm (useP (Z0q S i (atT d c)) (InT.at_ t) false):=hf.big b12 (fun b q=>by
     simp only[List.nil_append,List.mem_singleton]at q;subst q;exact hta.1)
    have hon2:onT (useP (Z0q S i (atT d c)) (InT.at_ t) false) d c:=Y4h b12.frm d c (hon.2 c hcm) (fun b q=>⟨fun r=>r.elim id id,by simp,by
     simp only[List.nil_append,List.mem_singleton];intro e;subst e;exact hnd.1 q⟩)
    obtain⟨G,q1,q2,q3,q4,q5⟩:=V0g i hi d h hf2 hon2 (hok.2.2.2.1 c hcm) hnd.2 (by rw[b2.root,hr1]);have b3:=b12.trans (Q:=fun _=>False) q1 (fun b q=>by cases q) (fun b q=>q.elim);refine⟨InT.at_ t::G,?_,q2,?_,q4.trans hls.symm,Nat.le_succ_of_le q5⟩
    ·have:=b3.mono (P':=fun _=>False) (fun b q=>q.elim (fun q=>q.elim id id) id);simpa using this
    ·rw[hpg];exact List.perm_middle.trans (List.Perm.cons _ q3)
theorem Y0n{S S':StoreD}{i:Nat}{k:ByteArray}{T T':TrD}(hi:i<16)(h:Z8t S i k S' T' T)(hf:Fm S)(ht:TrS S i T)(hk:∃x∈T.list,x.1=k):∃G,DelTL S i T (Z7w T.list k) S' T' G:=by
 cases T with
 | no=>exact h.elim
 | yes d t=>
   obtain⟨hr,hon,hok,hnd⟩:=ht;obtain⟨S1,t1,htk,h⟩:=h;obtain⟨G1,hl⟩:=Z7a d htk hf hon hok ((Y0h d t hok k).2 hk) hnd;have hn1:=hl.nd hnd;have hf1:=hl.fm hf hon;rcases h with ⟨he,rfl,rfl⟩ | ⟨hne,h⟩
   ·have hlt:∀b∈Z0a d t1,b<2048:=fun b hb=>by have:=(Z0l d t1 hl.on b hb).2.1;have:=hf1.most;omega
    obtain⟨b1,hr1⟩:=Stp.setRoot (i:=i) (n:=0) (Stp.refl hf1.full |>.mono (P':=fun _=>False) (fun _ q=>q)) hi (by omega);have b2:=Y4t (Z0a d t1) b1.full hlt;have b12:=b1.trans (Q:=fun _=>False) (b2.big i) (fun b q=>by cases q) (fun b q=> .inl q);have b3:=(hl.stp.big i).trans (Q:=fun _=>False) b12 (fun b q=>by cases q) (fun b q=>q.elim (fun q=>q.elim) (fun q=>q.elim));refine⟨G1++Z0a d t1,?_,?_,fun b hb=> ?_,?_,?_,?_,Nat.zero_le _⟩
    ·have:=b3.mono (P':=fun b=>b∈TrD.pages (.yes d t)) (fun b q=>q.elim id False.elim);simpa using this
    ·rw[List.nodup_append];exact⟨hn1.2.1,hn1.1,fun a ha b hb e=>by subst e;exact(hn1.2.2.1 a ha).2 hb⟩
    ·rcases List.mem_append.1 hb with q | q
     ·exact(hn1.2.2.1 b q).1
     ·exact hn1.2.2.2 b q
    ·show Z1w _ i=0;rw[b2.root,hr1]
    ·show([]++(G1++Z0a d t1)).Perm (Z0a d t);rw[List.nil_append];exact(List.perm_append_comm).trans hl.pages
    ·show []=Z7w (Z0f d t) k;rw[<-hl.list,he]
   ·obtain⟨G2,q1,q2,q3,q4,q5⟩:=V0g i hi d h hf1 hl.on hl.ok hn1.1 (by rw[hl.stp.root,hr,hl.at_]);have b3:=(hl.stp.big i).trans (Q:=fun _=>False) q1 (fun b q=>by cases q) (fun b q=>q.elim);have hnd2:=q3.nodup_iff.2 hn1.1;rw[List.nodup_append]at hnd2;refine⟨G1++G2,?_,?_,fun b hb=> ?_,q2,?_,?_,q5⟩
    ·have:=b3.mono (P':=fun b=>b∈TrD.pages (.yes d t)) (fun b q=>q.elim id False.elim);simpa using this
    ·rw[List.nodup_append];exact⟨hn1.2.1,hnd2.2.1,fun a ha b hb e=>by subst e;exact(hn1.2.2.1 a ha).2 (q3.mem_iff.1 (List.mem_append_right _ hb))⟩
    ·rcases List.mem_append.1 hb with q | q
     ·exact(hn1.2.2.1 b q).1
     ·exact hn1.2.2.2 b (q3.mem_iff.1 (List.mem_append_right _ q))
    ·show(TrD.pages T'++(G1++G2)).Perm (Z0a d t);refine List.Perm.trans ?_ hl.pages;have e1:(TrD.pages T'++(G1++G2)).Perm ((TrD.pages T'++G2)++G1):=by rw[aG];exact List.Perm.append_left _ List.perm_append_comm
     exact e1.trans (List.Perm.append_right _ q3)
    ·show T'.list=Z7w (Z0f d t) k;rw[q4,hl.list]
def delO(l:List OpD)(id:Int):List OpD:=l.filter (fun x=>decide (x.id≠id))
theorem Z5k{l:List OpD}{id:Int}{x:OpD}:x∈delO l id↔x∈l/\x.id≠id:=by unfold delO;rw[List.mem_filter];simp
theorem Y4p{l:List OpD}(h:l.Pairwise (fun a b=>a.id≠b.id)){a b:OpD}(ha:a∈l)(hb:b∈l)(e:a.id=b.id):a=b:=by
 obtain⟨i,hi,e1⟩:=List.mem_iff_getElem.1 ha;obtain⟨j,hj,e2⟩:=List.mem_iff_getElem.1 hb;have hp:=List.pairwise_iff_getElem.1 h;have hij:i=j:=by
  rcases Nat.lt_trichotomy i j with q | q | q
  ·exact absurd (by rw[e1,e2,e]) (hp i j hi hj q)
  ·exact q
  ·exact absurd (by rw[e1,e2,e]) (hp j i hj hi q)
 subst hij;exact e1.symm.trans e2
theorem X5q(T:TrD):depD T=depT T:=by cases T<;>rfl
theorem X7a{G:List Nat}{S S':StoreD}(hu:∀b,Z0y S' b=true↔(Z0y S b=true\/b∈([]:List Nat))/\b∉G)(hh:S'.head=S.head)(hG:G.Nodup)(hg:∀b∈G,Z0y S b=true/\b<S.head.pages):Z0z S'=Z0z S+G.length:=by
 have h1:Z1y S' S.head.pages+G.length=Z1y S S.head.pages:=by
  unfold Z1y;rw[<-aA];apply List.Perm.length_eq;rw[List.perm_ext_iff_of_nodup]
  ·intro b;rw[List.mem_append,List.mem_filter,List.mem_filter,hu,List.mem_range];constructor
   ·rintro(⟨q1,q2,_⟩ | q)
    ·exact⟨q1,q2.elim id (by simp)⟩
    ·exact⟨(hg b q).2,(hg b q).1⟩
   ·rintro⟨q1,q2⟩;by_cases q:b∈G
    ·exact .inr q
    ·exact .inl ⟨q1,.inl q2,q⟩
  ·rw[List.nodup_append];refine⟨List.nodup_range.filter _,hG,fun a ha b hb e=> ?_⟩;subst e;rw[List.mem_filter,hu]at ha;exact ha.2.2 hb
  ·exact List.nodup_range.filter _
 have h2:=Y3l S S.head.pages;unfold Z0z;rw[hh];omega
theorem Tab.del{S S':StoreD}{Ts:Nat->TrD}{L:Nat->List OpD}{i:Nat}{o:OpD}{T':TrD}{G:List Nat}(h:Tab S Ts L)(hi:i<5)(ho:o∈L i)(hp:DelTL S i (Ts i) (Z7w (Ts i).list (wayK i o)) S' T' G):Tab S' (updF Ts i T') (updF L i (delO (L i) o.id)):=by
 refine⟨h.fm.big hp.big (fun b q=>((h.tr i hi).given b (hp.back b q)).1),fun j hj=> ?_,fun j k hj hk hne b hb=> ?_,fun j hj x hx=> ?_,fun j hj=> ?_,fun j hj x=> ?_⟩
 ·by_cases e:j=i
  ·subst e;rw[Z0p];exact hp.tr
  ·rw[Z0i _ _ e];exact TrS.other hp.big (by omega) e (h.tr j hj) (fun b hb=>⟨fun q=>h.disj j i hj hi e b hb q,by simp,fun q=>h.disj j i hj hi e b hb (hp.back b q)⟩)
 ·by_cases e:j=i
  ·subst e;rw[Z0p]at hb;rw[Z0i _ _ (Ne.symm hne)];exact h.disj j k hj hk hne b (hp.pages.mem_iff.1 (List.mem_append_left _ hb))
  ·rw[Z0i _ _ e]at hb;by_cases e2:k=i
   ·subst e2;rw[Z0p];exact fun q=>h.disj j k hj hk hne b hb (hp.pages.mem_iff.1 (List.mem_append_left _ q))
   ·rw[Z0i _ _ e2];exact h.disj j k hj hk hne b hb
 ·by_cases e:j=i
  ·subst e;rw[Z0p]at hx;exact h.ok j hj x (Z5k.1 hx).1
  ·rw[Z0i _ _ e]at hx;exact h.ok j hj x hx
 ·by_cases e:j=i
  ·subst e;rw[Z0p];exact(h.ids j hj).filter _
  ·rw[Z0i _ _ e];exact h.ids j hj
 ·by_cases e:j=i
  ·subst e;rw[Z0p,Z0p,hp.list];unfold Z7w;rw[List.mem_filter];constructor
   ·rintro⟨h1,h2⟩;obtain⟨y,hy,rfl⟩:=(h.mem j hj x).1 h1;refine⟨y,Z5k.2 ⟨hy,fun q=> ?_⟩,rfl⟩;rw[Y4p (h.ids j hj) hy ho q]at h2;rw[(Z7u _ _).2 rfl]at h2;cases h2
   ·rintro⟨y,hy,rfl⟩;obtain⟨h1,h2⟩:=Z5k.1 hy;refine⟨(h.mem j hj _).2 ⟨y,h1,rfl⟩,?_⟩;rw[Z2i (fun q=>h2 (Z8c (OpIn.way (OpIn.of (h.ok j hj y h1)) j) (OpIn.way (OpIn.of (h.ok j hj o ho)) j) q))];rfl
  ·rw[Z0i _ _ e,Z0i _ _ e];exact h.mem j hj x
theorem Tab.delR{S S':StoreD}{Ts:Nat->TrD}{L:Nat->List OpD}{i:Nat}{o:OpD}{T':TrD}(h:Tab S Ts L)(hi:i<5)(ho:o∈L i)(hp:Z8t S i (wayK i o) S' T' (Ts i)):
  Tab S' (updF Ts i T') (updF L i (delO (L i) o.id))/\Z0z S'+T'.pages.length=Z0z S+(Ts i).pages.length/\depT T'<=depT (Ts i)/\T'.pages.length<=(Ts i).pages.length:=by
 obtain⟨G,hl⟩:=Y0n (by omega) hp h.fm (h.tr i hi) ⟨_,(h.mem i hi _).2 ⟨o,ho,rfl⟩,rfl⟩;have h0:=hl.pages.length_eq;rw[aA]at h0;refine⟨h.del hi ho hl,?_,by rw[<-X5q,<-X5q];exact hl.dep,by omega⟩;have h1:=X7a hl.big.used hl.big.head hl.nd (fun b hb=>⟨((h.tr i hi).given b (hl.back b hb)).2.2,((h.tr i hi).given b (hl.back b hb)).2.1⟩);have h2:=hl.pages.length_eq;rw[aA]at h2;omega
theorem Z9e{α:Type}(f:α->List KV)(k:ByteArray):∀l:List α,Z1e (l.flatMap f) k=l.flatMap (fun c=>Z1e (f c) k)
 | []=>rfl
 | a::r=>by rw[aI,aI,<-Z9e f k r];unfold Z1e;rw[List.filter_append]
def outK{d:Nat}(key:ByteArray)(ts:List (TT d))(i:Nat):List KV:=(ts.take i).flatMap (fun c=>Z1e (Z0f d c) key)
theorem V1m{d:Nat}(key:ByteArray)(ts:List (TT d))(i:Nat)(c:TT d)(hc:ts[i]? =some c):outK key ts (i+1)=outK key ts i++Z1e (Z0f d c) key:=by unfold outK;rw[List.take_add_one,hc,aH];simp
theorem V1l{d:Nat}{t:TT (d+1)}(h:okT (d+1) t)(key:ByteArray):outK key (InT.kids t) (Z0h (InT.keys t) key)= []:=by have:=(Y7a (t:=t) h key).1;unfold outK;rw[<-Z9e];exact Z7t (fun x hx=>by rw[this x hx];rfl)
theorem V6w{d:Nat}(key:ByteArray)(t:TT (d+1)):outK key (InT.kids t) (InT.kids t).length=Z1e (Z0f (d+1) t) key:=by unfold outK;rw[List.take_length,<-Z9e];rfl
theorem X4u{d:Nat}(key:ByteArray)(ts:List (TT d)){i j:Nat}(h:i<=j):outK key ts i <+: outK key ts j:=by unfold outK;obtain⟨r,hr⟩:=List.take_prefix_take_left (l:=ts) h;rw[<-hr,aH];exact List.prefix_append _ _
def Z3m(d:Nat)(t:TT d):Nat:=(Z0a d t).length
def Z4k{d:Nat}(ts:List (TT d))(i:Nat):Nat:=((ts.drop i).map (Z3m d)).sum
theorem Y4i{d:Nat}(ts:List (TT d))(i:Nat)(c:TT d)(hc:ts[i]? =some c):Z4k ts i=Z3m d c+Z4k ts (i+1):=by obtain⟨h,rfl⟩:=aC.1 hc;unfold Z4k;rw[List.drop_eq_getElem_cons h,List.map_cons,List.sum_cons]
theorem X0o{d:Nat}(ts:List (TT d)):∀i,Z4k ts i<=Z4k ts 0
 | 0=>aF _
 | i+1=>by
   have ih:=X0o ts i;cases h:ts[i]? with
   | none=>
     have h1:=List.getElem?_eq_none_iff.1 h;unfold Z4k;rw[List.drop_eq_nil_of_le (by omega)];exact Nat.zero_le _
   | some c=>have:=Y4i ts i c h;omega
theorem X0n{d:Nat}(t:TT (d+1)):Z3m (d+1) t=1+Z4k (InT.kids t) 0:=by unfold Z3m Z4k;show(InT.at_ t::(InT.kids t).flatMap (Z0a d)).length=_;rw[List.length_cons,List.length_flatMap,List.drop_zero];have:(fun a=>(Z0a d a).length)=Z3m d:=rfl;rw[this];omega
def V4z(wb t l p i:Nat)(S:StoreD)(K:Nat->Prop)(key:ByteArray)(lf:Nat)(F G:Nat->Prop)(J Jx:List KV->(Nat->Prop)->World->Prop)(pre out:List KV)(w:World)(e:Ending)(w':World):Prop:=
 ∃(lf':Nat) (F2 G2:Nat->Prop),lf<=lf'/\lf'<=2000/\ItT p t i S K F2 w'/\Dis F2 G2 w'/\Keeps (fun i=>Un F G i\/i=wb) (fun i=>Un F2 G2 i\/i=wb) w w'/\Z3k w' wb t l key lf'/\¬Un F2 G2 wb/\
  ((e= .returned (.bool true)/\J (pre++out) G2 w')\/(e= .returned (.bool false)/\∃q,q <+: out/\Jx (pre++q) G2 w'))
structure InnS (wb p t i l:Nat) (S:StoreD) (K:Nat->Prop) (key:ByteArray) (lv:Nat) (J:List KV->(Nat->Prop)->World->Prop) (F G:Nat->Prop) (wa:World) (pre:List KV) (Fr Gr:Nat->Prop) (wr:World):Prop where
 it:ItT p t i S K Fr wr
 dis:Dis Fr Gr wr
 keep:Keeps (fun i=>Un F G i\/i=wb) (fun i=>Un Fr Gr i\/i=wb) wa wr
 row:Z3k wr wb t l key lv
 nwb:¬Un Fr Gr wb
 j:J pre Gr wr
theorem X6g{t p i d0:Nat}{F G K:Nat->Prop}{S:StoreD}{J Jx:List KV->(Nat->Prop)->World->Prop}{Ok:List KV->KV->Prop}(l wb D lf lfz:Nat)(key:ByteArray)(T:TT (d0+1))(pre:List KV)(w:World)
 (hit:ItT p t i S K F w)(hdis:Dis F G w)(hwb:Z3k w wb t l key ((lf+1:Nat):Int))(hnw:¬Un F G wb)(hon:onT S (d0+1) T)(hok:okT (d0+1) T)(jH:D<=1000)(hJ:Z2y J)
 (hOk:∀q x,q++ [x] <+: Z1e (Z0f (d0+1) T) key->Ok (pre++q) x)(h0:J pre G w)(hlz:lfz+Z4k (InT.kids T) 0<=lf)(hlf:lf<2000)
 (hIH:∀(F G:Nat->Prop) (pre:List KV) (w:World) (c:TT d0) (lf:Nat),c∈InT.kids T->ItT p t i S K F w->Dis F G w->Z3k w wb t l key ((lf+Z3m d0 c:Nat):Int)->¬Un F G wb->J pre G w->(∀q x,q++ [x] <+: Z1e (Z0f d0 c) key->Ok (pre++q) x)->lf+Z3m d0 c<=2000->
    cQ 107 #[tp wb,.int .i64 (atT d0 c),.int .i64 D] w (V4z wb t l p i S K key lf F G J Jx pre (Z1e (Z0f d0 c) key) w)):
  cQ 107 #[tp wb,.int .i64 (InT.at_ T),.int .i64 ((D+1:Nat):Int)] w (V4z wb t l p i S K key lfz F G J Jx pre (Z1e (Z0f (d0+1) T) key) w):=by
 have hkid:=Y8j (S:=S) hon.2 (by have:=hit.1.most;exact this);have hpg:=Z3z (d0+1) T hon;have hmany:=hpg.ok.many;have hkl:(InT.kids T).length=(InT.keys T).length+1:=hok.2.1;have hj:=Z4o (k:=key) hok.1;have HOUT0:Hid (outK key (InT.kids T) (Z0h (InT.keys T) key)= []):=V1l hok key;have HOUTC:Hid (outK key (InT.kids T) (InT.kids T).length=Z1e (Z0f (d0+1) T) key):=V6w key T;have HOUTS:Hid (∀i c,(InT.kids T)[i]? =some c->outK key (InT.kids T) (i+1)=outK key (InT.kids T) i++Z1e (Z0f d0 c) key):=fun i c q=>V1m key _ i c q;have HNS:Hid (∀i c,(InT.kids T)[i]? =some c->Z4k (InT.kids T) i=Z3m d0 c+Z4k (InT.kids T) (i+1)):=fun i c q=>Y4i _ i c q;have HNJ:Hid (lfz+Z4k (InT.kids T) (Z0h (InT.keys T) key)<=lf):=hD (by have:=X0o (InT.kids T) (Z0h (InT.keys T) key);omega);have HKIDS:Hid (∀W G kv vv cv,NodeAs W G (Z0c (d0+1) T) kv vv cv->∃cb cc,cv= .slice (some ⟨cb,0,none⟩) (InT.kids T).length cc/\G cb/\cb<W.heap.size/\∀i c,(InT.kids T)[i]? =some c->W.cell? ⟨cb,i,none⟩=some (.int .i64 (atT d0 c))):=fun W G kv vv cv q=>by have hl:(Z0c (d0+1) T).kids.length=(InT.kids T).length:=List.length_map _;obtain⟨cb,cc,hcv,hcb,_⟩:=Z6p q.kids 0 (by rw[hl];omega);rw[hl]at hcv;refine⟨cb,cc,hcv,q.fc cb (by rw[hcv];rfl),hcb,fun i c hc=> ?_⟩;have hi:=(aC.1 hc).1;obtain⟨cb',cc',hcv',_,hcell⟩:=Z6p q.kids i (by rw[hl];exact hi);rw[hcv]at hcv';injection hcv' with e1 e2 e3;injection e1 with e1;injection e1 with e1;subst e1;rw[hcell];show some (Value.int .i64 ((((InT.kids T).map fun c=>(atT d0 c:Int))[i]?).getD 0))=_;rw[List.getElem?_map,hc];rfl
 have HDN0:Hid (∀W kv vv cv G,NodeAs W G (Z0c (d0+1) T) kv vv cv->cQ 137 #[.agg #[.bool false,kv,vv,cv],.string key] W fun e w'=>e= .returned (.int .i64 (Z0h (InT.keys T) key))/\Ext W w'):=fun W kv vv cv G q=>Y3a key W q hok.1 (by show(InT.keys T).length<=1000000;have:(Z0c (d0+1) T).keys=InT.keys T:=rfl;rw[this]at hmany;omega);have HIT:=hD hit;obtain⟨h1,h2,h3,_⟩:=hit;have hne:t≠wb:=Row1.apart h2 hwb (by decide);have hG0:¬G wb:=fun q=>hnw (.inr q);have hF0:¬F wb:=fun q=>hnw (.inl q);obtain⟨lv,hlv⟩:∃lv:Nat,lf+1=lv:=⟨_,rfl⟩;rw[hlv]at hwb;have T1:IntKind.i64.wrap ((lv:Int)-1)=(lf:Int):=by rw[IntKind.wrap_i64];omega
 have T2:decide ((lf:Int)<0)=false:=aM;obtain⟨dv,hdv⟩:∃dv:Nat,D+1=dv:=⟨_,rfl⟩;rw[hdv];have T3:((dv:Int)==0)=false:=by simp;omega
 have T4:(dv:Int)-1=(D:Int):=by omega
 have HT4:=hD T4;have T5:dv<=1001:=by omega
 have T6:0<dv:=by omega
 have z3:w.cell? ⟨wb,3,none⟩=some (.int .i64 lv):=hwb.cell 3;have y3:w.frozen? ⟨wb,3,none⟩=false:=hwb.soft 3;have hoA:Only (fun j=>j=wb) w (w.setCell ⟨wb,3,none⟩ (.int .i64 lf)):=Y5o w wb 3 _;have hwA:Z3k (w.setCell ⟨wb,3,none⟩ (.int .i64 lf)) wb t l key lf:=hwb.set 3 _;have x0:(w.setCell ⟨wb,3,none⟩ (.int .i64 lf)).cell? ⟨wb,0,none⟩=some (tp t):=hwA.cell 0;have htA:Z0b (w.setCell ⟨wb,3,none⟩ (.int .i64 lf)) t p i:=hoA.row h2 (fun q=>hne q);have cL:=Z1m (InT.at_ T) (Z0c (d0+1) T) (w.setCell ⟨wb,3,none⟩ (.int .i64 lf)) htA (h1.only hoA (fun j q q'=>by subst q';exact hF0 q)) hpg;rw[show (Z0c (d0+1) T).leaf=false from rfl]at cL;have HWA:=hD hwA;have HTA:=hD htA;have HOA:=hD hoA;have HD:=hD hdis;have HNW:=hD hnw;have HJ:=hD hJ;have HOK:=hD hOk;have H0:=hD h0;have HNT:=hD h3;have HIH:=hD hIH;have HSA:Hid ((w.setCell ⟨wb,3,none⟩ (.int .i64 lf)).heap.size=w.heap.size):=Z1z _ _ _;have HWL:=hD hwb.lt;have HTL:=hD h2.lt;have HTW:Hid (¬t=wb):=hne;have HCN:Hid ((InT.kids T).length<=256):=hD (by have h8:(Z0c (d0+1) T).keys=InT.keys T:=rfl;rw[h8]at hmany;omega);have HJC:Hid (Z0h (InT.keys T) key<=(InT.kids T).length):=hD (by omega);have HLF:=hD hlf;generalize hnode:Z0c (d0+1) T=n at *;generalize hata:InT.at_ T=a at *;generalize hdn:Z0h (InT.keys T) key=dn at *;obtain⟨C,hC⟩:∃C,(InT.kids T).length=C:=⟨_,rfl⟩;rw[hC]at HKIDS HCN HJC HOUTC;have HC:=hD hC;clear h1 h2 h3 hdis hwb hnw hon hok jH hJ hOk h0 hlf hlv hoA hwA htA hG0 hF0 hIH hkid hpg hmany hkl hj hlz hdv hnode hata hdn hC T4;go_enter Tryz.func107,Tryz.ntmps107;go_upto_region 6 with (first
  | (go_at_call 82;(with_reducible refine cL.mono ?_);clear cL;rintro e w2 ⟨kA,kn,kc,vA,vn,vc,cA,cn,cc,B,F1,rfl,hn1,hp1,hk1,hB,hF1,hBW⟩
     have HW2:Hid (Z3k w2 wb t l key lf):=hk1.only.row HWA.out (fun q=>HNW.out (.inl q));have x3:(w2.alloc (.cells #[.bool false,.slice kA kn kc,.slice vA vn vc,.slice cA cn cc] 166)).cell? ⟨wb,3,none⟩=some (.int .i64 lf):=(Row1.alloc HW2.out _).cell 3;have HN1:=hD hn1;have HP1:=hD hp1;have HK1:=hD hk1;have HB:=hD hB;have HF1:=hD hF1;have HBW:=hD hBW;clear hn1 hp1 hk1 hB hF1 hBW))
 obtain⟨cb,cc9,hcv,hcbB,hcbl,hcells⟩:=HKIDS.out _ _ _ _ _ HN1.out;injection hcv with e1 e2 e3;subst e1 e2;obtain⟨wa,hwa⟩:∃wa,w2.alloc (.cells #[.bool false,.slice kA kn kc,.slice vA vn vc,.slice (some ⟨cb,0,none⟩) cn cc] 166)=wa:=⟨_,rfl⟩;rw[hwa];have hxa:Ext w2 wa:=hwa▸Ext.alloc _ _;have hra:Row1 wa w2.heap.size 166 [.bool false,.slice kA kn kc,.slice vA vn vc,.slice (some ⟨cb,0,none⟩) cn cc]:=hwa▸Row1.made w2 _ _;have hsz2:=HK1.out.only.size;rw[HSA.out]at hsz2;have HBW':Hid (w.heap.size<=B):=by have:=HB.out;rw[HSA.out]at this;exact this
 have HUN:Hid (∀b,B<=b\/b=wb->¬Un F1 G b):=fun b q=>by
  rcases q with q | q
  ·exact fun r=>r.elim (fun r=>by have:=HF1.out b r;omega) (fun r=>by have:=(HD.out.2 b r).1;have:=HBW'.out;omega)
  ·subst q;exact fun r=>r.elim (fun r=>HK1.out.out (by rw[HSA.out];exact HWL.out) (fun q=>HNW.out (.inl q)) r) (fun r=>HNW.out (.inr r))
 have HUB:Hid (∀b,B<=b->¬(Un F1 G b\/b=wb)):=fun b q r=>r.elim (HUN.out b (.inl q)) (fun r=>by have:=HWL.out;have:=HBW'.out;omega);have hita:ItT p t i S K F1 wa:=((HIT.out.only HOA.out (fun j q q'=>by subst q';exact HNW.out (.inl q)) (fun q=>HTW.out q)).keeps HP1.out HK1.out).ext hxa;have hdisa:Dis F1 G wa:=⟨fun i q=>by have:=HF1.out i q;have:=HBW.out;have:=hxa.size;omega,fun i q=>⟨by have:=(HD.out.2 i q).1;have:=hxa.size;omega,fun r=>by
  rcases HK1.out.new i r with s | s
  ·exact(HD.out.2 i q).2 s
  ·rw[HSA.out]at s;have:=(HD.out.2 i q).1;omega⟩⟩
 have hoa:Only (fun i=>¬G i) w wa:=((HOA.out.mono (fun i q=> .inl (fun r=>by subst q;exact HNW.out (.inr r)))).trans' (HK1.out.only.mono (fun i q=> .inl (fun r=>(HD.out.2 i r).2 q)))).ext hxa;have hja:J pre G wa:=HJ.out _ _ _ _ H0.out (fun i q=>(HD.out.2 i q).1) hoa;have HS0:Hid (∀W,Ext wa W->InnS wb p t i l S K key lf J F1 G wa (pre++outK key (InT.kids T) dn) F1 G W):=fun W hW=>
  ⟨hita.ext hW,⟨fun i q=>aE (hdisa.1 i q) hW.size,fun i q=>⟨aE (hdisa.2 i q).1 hW.size,(hdisa.2 i q).2⟩⟩,Keeps.of hW,(HW2.out.ext hxa HW2.out.lt).ext hW (aE HW2.out.lt hxa.size),HUN.out wb (.inr rfl),by rw[HOUT0.out,List.append_nil];exact HJ.out _ _ _ _ hja (fun i q=>(hdisa.2 i q).1) (Only.of hW)⟩
 have HRA:=hD hra;have HXA:=hD hxa;have HKWA:Hid (Keeps (fun i=>Un F G i\/i=wb) (fun i=>Un F1 G i\/i=wb) w wa):=⟨((HOA.out.mono (fun i q=> .inl (.inr q))).trans' (HK1.out.only.mono (fun i q=> .inl (.inl (.inl q))))).ext hxa,fun i q=>by
  rcases q with (q | q) | q
  ·rcases HK1.out.new i q with r | r
   ·exact .inl (.inl (.inl r))
   ·rw[HSA.out]at r;exact .inr r
  ·exact .inl (.inl (.inr q))
  ·exact .inl (.inr q)⟩
 have HNA:Hid (NodeAs wa (fun i=>B<=i) n (.slice kA kn kc) (.slice vA vn vc) (.slice (some ⟨cb,0,none⟩) cn cc)):=HN1.out.ext hxa;have HCB:Hid (B<=cb/\cb<wa.heap.size):=⟨hcbB,aE hcbl hxa.size⟩;have HCELL:Hid (∀i c,(InT.kids T)[i]? =some c->wa.cell? ⟨cb,i,none⟩=some (.int .i64 (atT d0 c))):=fun i c hc=>(hxa.cell (p:=⟨cb,i,none⟩) hcbl).trans (hcells i c hc);have HKS:Hid (∀W,Ext wa W->W.cell? ⟨wb,1,none⟩=some (.string key)/\W.cell? ⟨w2.heap.size,0,none⟩=some (.bool false)/\W.cell? ⟨w2.heap.size,1,none⟩=some (.slice kA kn kc)/\W.cell? ⟨w2.heap.size,2,none⟩=some (.slice vA vn vc)/\W.cell? ⟨w2.heap.size,3,none⟩=some (.slice (some ⟨cb,0,none⟩) cn cc)):=fun W hW=>by have r1:=(HS0.out W hW).row;have r2:=HRA.out.ext hW HRA.out.lt;exact⟨r1.cell 1,r2.cell 0,r2.cell 1,r2.cell 2,r2.cell 3⟩
 clear hwa hxa hra hita hdisa hoa hja hsz2 hcbB hcbl hcells e3 x3;refine wp_region_held_drew (S:=fun W=>W.cell? ⟨wb,1,none⟩=some (.string key)/\W.cell? ⟨w2.heap.size,0,none⟩=some (.bool false)/\W.cell? ⟨w2.heap.size,1,none⟩=some (.slice kA kn kc)/\W.cell? ⟨w2.heap.size,2,none⟩=some (.slice vA vn vc)/\W.cell? ⟨w2.heap.size,3,none⟩=some (.slice (some ⟨cb,0,none⟩) cn cc)) (by kernel_rfl) (HKS.out _ (by exact Xt)) (fun hHeld=> ?_);refine' tk 0 ?_;refine' tk 1 ?_;refine' tk 2 ?_;refine' tk 3 ?_;refine' tk 4 ?_;refine stp 5 (fun K hK=> ?_);go_simp
 (with_reducible refine(HDN0.out _ _ _ _ _ (HNA.out.ext ?_)).mono ?_)
 ·exact Xt
 rintro e w4 ⟨rfl,hb4⟩;have HB4:Hid (Ext wa w4):=Ext.trans (by exact Xt) hb4;clear hb4
 (try dsimp only)
 (try go_simp)
 refine hK.out _ _ (HKS.out _ HB4.out) (fun hHeld=> ?_);clear hK K;refine pt ?_;refine' tk 6 ?_;refine wpAnyH_done (by kernel_rfl) ?_ _;have HS4:=hD (HS0.out w4 HB4.out);go_wp2_with fail
 go_loopw [9] (fun x wr=>∃(q lv:Nat) (Fr Gr:Nat->Prop),dn<=q/\q<=cn/\x= .int .i64 q/\lv<=2000/\Hid (lfz+Z4k (InT.kids T) q<=lv)/\Hid (InnS wb p t i l S K key lv J F1 G wa (pre++outK key (InT.kids T) q) Fr Gr wr)) (fun x _=>cn-(intOf x).toNat)
 case atStart=>exact⟨dn,lf,F1,G,aF _,HJC.out,rfl,by have:=HLF.out;omega,HNJ,HS4⟩
 case round=>
  obtain⟨q,lv9,Fr,Gr,hq1,hq2,rfl,hlv9,hns,hs⟩:=hrel;have hrw:Row1 wr w2.heap.size 166 [.bool false,.slice kA kn kc,.slice vA vn vc,.slice (some ⟨cb,0,none⟩) cn cc]:=hs.out.keep.only.row HRA.out (HUB.out _ HBW.out);have x3:wr.cell? ⟨w2.heap.size,3,none⟩=some (.slice (some ⟨cb,0,none⟩) cn cc):=hrw.cell 3;have hqb:q<=256:=by have:=HCN.out;omega
  clear hrw;by_cases hqc:q<cn
  ·have q1:decide ((q:Int)<(cn:Int))=true:=aN;have q2:(q:Int)<(cn:Int):=by omega
   obtain⟨c,hc⟩:∃c,(InT.kids T)[q]? =some c:=⟨_,aB (by have:=HC.out;omega)⟩;have x4:wr.cell? ⟨cb,q,none⟩=some (.int .i64 (atT d0 c)):=(World.cell?_of_block (hs.out.keep.only.block cb HCB.out.2 (HUB.out cb HCB.out.1))).trans (HCELL.out q c hc);have hn9:=HNS.out q c hc;have ho9:=HOUTS.out q c hc;obtain⟨lx,hlx⟩:∃lx,lx+Z3m d0 c=lv9:=⟨lv9-Z3m d0 c,by have:=hns.out;omega⟩;have hrow9:=hs.out.row;rw[<-hlx]at hrow9;have cW:=HIH.out Fr Gr (pre++outK key (InT.kids T) q) wr c lx (List.mem_of_getElem? hc) hs.out.it hs.out.dis hrow9 hs.out.nwb hs.out.j (fun r x hr=>by
    have h1:outK key (InT.kids T) q++(r++ [x]) <+: Z1e (Z0f (d0+1) T) key:=by
     have h2:outK key (InT.kids T) (q+1) <+: Z1e (Z0f (d0+1) T) key:=by rw[<-HOUTC.out];exact X4u key _ (by omega)
     rw[ho9]at h2;exact((List.prefix_append_right_inj _).2 hr).trans h2
    have:=HOK.out (outK key (InT.kids T) q++r) x (by rw[aG];exact h1);rw[aG];exact this) (by omega)
   rw[<-HT4.out]at cW;have HN9:=hD hn9;have HO9:=hD ho9;have HLX:=hD hlx;clear hn9 ho9 hlx hc hrow9
   go_upto_if 66 with (first
    | (go_at_call 107;refine cW.mono ?_;clear cW;rintro e w8 ⟨lf',F8,G8,p0,p00,p1,p2,p3,p4,p5,p6⟩
       obtain⟨yb,rfl,p7⟩:∃yb:Bool,e= .returned (.bool yb)/\((yb=true/\J (pre++outK key (InT.kids T) q++Z1e (Z0f d0 c) key) G8 w8)\/(yb=false/\∃r,r <+: Z1e (Z0f d0 c) key/\Jx (pre++outK key (InT.kids T) q++r) G8 w8)):=by
        rcases p6 with ⟨rfl,r⟩ | ⟨rfl,r⟩
        ·exact⟨true,rfl,.inl ⟨rfl,r⟩⟩
        ·exact⟨false,rfl,.inr ⟨rfl,r⟩⟩
       have P0:=hD p0;have P00:=hD p00;have P1:=hD p1;have P2:=hD p2;have P3:=hD p3;have P4:=hD p4;have P5:=hD p5;have P7:=hD p7;clear p0 p00 p1 p2 p3 p4 p5 p6 p7))
   have HK8:Hid (Keeps (fun i=>Un F1 G i\/i=wb) (fun i=>Un F8 G8 i\/i=wb) wa w8):=Keeps.trans hs.out.keep P3.out;cases yb with
   | true=>
     have hj8:J (pre++outK key (InT.kids T) (q+1)) G8 w8:=by
      rcases P7.out with ⟨_,r⟩ | ⟨r,_⟩
      ·rw[HO9.out,<-aG];exact r
      ·cases r
     have HNX:Hid (InnS wb p t i l S K key lf' J F1 G wa (pre++outK key (InT.kids T) (q+1)) F8 G8 w8):=⟨P1.out,P2.out,HK8.out,P4.out,P5.out,hj8⟩;have HNL:Hid (lfz+Z4k (InT.kids T) (q+1)<=lf'):=hD (by have:=hns.out;have:=HN9.out;have:=HLX.out;have:=P0.out;omega);have HLF':lf'<=2000:=P00.out;clear hj8;simp only[Bool.not_true];go_wp2_with fail
     go_roundw
     case rel=>exact⟨q+1,lf',F8,G8,by omega,by omega,by go_num,HLF',HNL,HNX⟩
     case measure=>simp only[intOf];omega
   | false=>
     have HDN:Hid (V4z wb t l p i S K key lfz F G J Jx pre (Z1e (Z0f (d0+1) T) key) w (.returned (.bool false)) w8):=by
      refine⟨lf',F8,G8,by have:=hns.out;have:=HN9.out;have:=HLX.out;have:=P0.out;omega,P00.out,P1.out,P2.out,Keeps.trans HKWA.out HK8.out,P4.out,P5.out,.inr ⟨rfl,?_⟩⟩;rcases P7.out with ⟨r,_⟩ | ⟨_,r,hr,hjx⟩
      ·cases r
      ·refine⟨outK key (InT.kids T) q++r,?_,by rw[<-aG];exact hjx⟩;have h2:outK key (InT.kids T) (q+1) <+: Z1e (Z0f (d0+1) T) key:=by rw[<-HOUTC.out];exact X4u key _ (by omega)
       rw[HO9.out]at h2;exact((List.prefix_append_right_inj _).2 hr).trans h2
     simp only[Bool.not_false];go_wp2_with fail;go_ret;exact HDN.out
  ·obtain rfl:q=cn:=by omega
   have q1:decide ((q:Int)<(q:Int))=false:=aM;have HDN:Hid (V4z wb t l p i S K key lfz F G J Jx pre (Z1e (Z0f (d0+1) T) key) w (.returned (.bool true)) wr):=by refine⟨lv9,Fr,Gr,by have:=hns.out;omega,hlv9,hs.out.it,hs.out.dis,Keeps.trans HKWA.out hs.out.keep,hs.out.row,hs.out.nwb,.inl ⟨rfl,?_⟩⟩;rw[<-HOUTC.out];exact hs.out.j
   clear hs;go_wp2_with fail;go_ret;exact HDN.out
theorem X9g{t p i:Nat}{K:Nat->Prop}{S:StoreD}{J Jx:List KV->(Nat->Prop)->World->Prop}{Ok:List KV->KV->Prop}(l wb:Nat)(key:ByteArray)(hJ:Z2y J)(hY:X3l Tryz.prog l (ItT p t i S K) J Jx Ok)(d:Nat):
  ∀(F G:Nat->Prop) (D:Nat) (T:TT d) (pre:List KV) (w:World) (lf:Nat),ItT p t i S K F w->Dis F G w->Z3k w wb t l key ((lf+Z3m d T:Nat):Int)->¬Un F G wb->onT S d T->okT d T->J pre G w->(∀q x,q++ [x] <+: Z1e (Z0f d T) key->Ok (pre++q) x)->lf+Z3m d T<=2000->d<D->D<=1000->
   cQ 107 #[tp wb,.int .i64 (atT d T),.int .i64 D] w (V4z wb t l p i S K key lf F G J Jx pre (Z1e (Z0f d T) key) w):=by
 induction d with
 | zero=>
   intro F G D T pre w lf hit hdis hwb hnw hon hok h0 hOk hlf hd jH;have ho:outL (Z0c 0 T) key (Z0c 0 T).keys.length=Z1e (Z0f 0 T) key:=by unfold outL Z1e;have hv:(LeafT.vals T).length=(LeafT.keys T).length:=hok.2.1;rw[List.take_of_length_le (by rw[List.length_zip];exact Nat.min_le_left _ _)];rfl
   have hn1:Z3m 0 T=1:=rfl;rw[hn1]at hwb hlf;refine(X9f (Ok:=Ok) l wb (LeafT.at_ T) D lf key (Z0c 0 T) pre w hit hdis hwb hnw hon rfl hd hJ hY (fun q x r=>hOk q x (by rw[<-ho];exact r)) h0 (by omega)).mono ?_;rintro e w' ⟨F2,G2,r1,r2,r3,r4,r5,r6⟩;rw[ho]at r6;exact⟨lf,F2,G2,aF _,by omega,r1,r2,r3,r4,r5,r6⟩
 | succ d ih=>
   intro F G D T pre w lf hit hdis hwb hnw hon hok h0 hOk hlf hd jH;obtain⟨D',rfl⟩:∃D',D=D'+1:=⟨D-1,by omega⟩;have hn1:=X0n T;rw[show lf+Z3m (d+1) T=(lf+Z4k (InT.kids T) 0)+1 by omega]at hwb;exact X6g (Ok:=Ok) l wb D' (lf+Z4k (InT.kids T) 0) lf key T pre w hit hdis hwb hnw hon hok (by omega) hJ hOk h0 (aF _) (by omega) (fun F G pre w c lf hc q1 q2 q3 q4 q5 q6 q7=>ih F G D' c pre w lf q1 q2 q3 q4 (hon.2 c hc) (hok.2.2.2.1 c hc) q5 q6 q7 (by omega) (by omega))
end
section
open Go.RowKit Go.Shelf
attribute [local go_sem] Oper.semAt_some
theorem Y8f{l:List Nat}(h:l.Nodup){n:Nat}(hb:∀b∈l,b<n):l.length<=n:=by
 have h1:l.Perm ((List.range n).filter (fun b=>decide (b∈l))):=by rw[List.perm_ext_iff_of_nodup h (List.nodup_range.filter _)];intro b;rw[List.mem_filter,List.mem_range,decide_eq_true_iff];exact⟨fun q=>⟨hb b q,q⟩,fun q=>q.2⟩
 have h2:=List.length_filter_le (fun b=>decide (b∈l)) (List.range n);rw[h1.length_eq];rwa [List.length_range]at h2
theorem Z3s(l:List KV):Z1e l ⟨#[]⟩=l:=Z2m (fun x _=>by rw[V2a];rfl)
theorem Y0i{t p i m tb kb:Nat}{S:StoreD}{K:Nat->Prop}(key:ByteArray)(T:TrD)(w:World)(hT:TrS S i T)(hd:T.fine)(hi:i<16)(htb:Row1 w tb 36 [tp t])(hkb:Row1 w kb 9 [.string key])(hK1:K tb)(hK2:K kb):
  SeqB Tryz.prog m 106 #[tp tb,tp kb] (ItT p t i S K) (Z1e T.list key) w:=by
 intro l J Jx W F G hx hit hdis hJ hJx hY h0;refine callsIn_wide.2 ?_;have hY':X3l Tryz.prog l (ItT p t i S K) J Jx (fun pre x=>pre++ [x] <+: Z1e T.list key):=fun pre x W1 F1 G1 q1 q2 q3 q4=>Y2c (hY pre x W1 F1 G1 q1 q2 q3 q4);have cR:=Z4d W hit.2.1 hit.2.2.1 hit.1 hi;have htW:=htb.ext hx htb.lt;have hkW:=hkb.ext hx hkb.lt;have a0:W.cell? ⟨tb,0,none⟩=some (tp t):=htW.cell 0;have HIT:=hD hit;have HD:=hD hdis;have HJ:=hD hJ;have HY:=hD hY';have H0:=hD h0;have HTB:=hD htW;have HKB:=hD hkW;have HK1:=hD hK1;have HK2:=hD hK2;clear hx hit hdis hJ hJx hY hY' h0 htb hkb htW hkW hK1 hK2;cases T with
 | no=>
   rw[show Z1w S i=0 from hT]at cR;go_enter Tryz.func106,Tryz.ntmps106;go_wp2_with (first
    | (go_at_call 78;(with_reducible refine cR.mono ?_);clear cR;rintro e w1 ⟨rfl,F1,hp1,hk1⟩;have HP1:=hD hp1;have HK1:=hD hk1;clear hp1 hk1))
   go_end0
   obtain⟨F2,q1,q2,q3,q4,_⟩:=Y6d HIT.out HD.out HJ.out H0.out HP1.out HK1.out;exact⟨⟨_,rfl⟩,F2,G,q1,q2,q3,.inl ⟨_,rfl,q4⟩⟩
 | yes d T=>
   obtain⟨hr,hon,hok,hnd⟩:=hT;have hd':d<31:=hd;have hm:S.head.pages<=1024:=HIT.out.1.most;have hnod:Z3m d T<=1024:=Y8f hnd (fun b hb=>by have:=(Z0l d T hon b hb).2.1;omega);have ha2:=(Z0l d T hon _ (Z0r d T)).1;rw[hr]at cR;obtain⟨lf,hlf⟩:∃lf,lf+Z3m d T=1024:=⟨1024-Z3m d T,by omega⟩;have HON:=hD hon;have HOKT:=hD hok;have HLF:=hD hlf;have HROW:Hid (∀W b,Z3k W b t l key 1024->Z3k W b t l key ((lf+Z3m d T:Nat):Int)):=hD (fun W b q=>by rw[hlf];exact q);obtain⟨a,ha⟩:∃a,atT d T=a:=⟨_,rfl⟩;rw[ha]at cR ha2;have HA:=hD ha;have T1:((a:Int)==0)=false:=by simp;omega
   have T2:((a:Int)!=0)=true:=by simp;omega
   clear hr hon hok hnd ha hm hnod hlf;go_enter Tryz.func106,Tryz.ntmps106;go_wp2_with (first
    | (go_at_call 78;(with_reducible refine cR.mono ?_);clear cR;rintro e w1 ⟨rfl,F1,hp1,hk1⟩
       obtain⟨F2,q1,q2,q3,q4,q5⟩:=Y6d HIT.out HD.out HJ.out H0.out hp1 hk1;have b0:w1.cell? ⟨tb,0,none⟩=some (tp t):=(q5.only.row HTB.out (HIT.out.2.2.2 _ HK1.out).1).cell 0;have b1:w1.cell? ⟨kb,0,none⟩=some (.string key):=(q5.only.row HKB.out (HIT.out.2.2.2 _ HK2.out).1).cell 0;have hxa:Ext w1 (w1.alloc (.cells #[tp t,.string key,.func (.yield l) #[] #[],.int .i64 1024] 195)):=Ext.alloc _ _;have cW:=X9g (Ok:=fun pre x=>pre++ [x] <+: Z1e (Z0f d T) key) l w1.heap.size key HJ.out HY.out d F2 G 32 T [] (w1.alloc (.cells #[tp t,.string key,.func (.yield l) #[] #[],.int .i64 1024] 195)) lf (q1.ext hxa)
        ⟨fun i q=>aE (q2.1 i q) hxa.size,fun i q=>⟨aE (q2.2 i q).1 hxa.size,(q2.2 i q).2⟩⟩ (HROW.out _ _ (Row1.made w1 _ _)) (fun q=>q.elim (fun q=>by have:=q2.1 _ q;omega) (fun q=>by have:=(q2.2 _ q).1;omega)) HON.out HOKT.out (HJ.out _ _ _ _ q4 (fun i q=>(q2.2 i q).1) (Only.of hxa)) (fun q x h=>h) (by have:=HLF.out;omega) (by omega) (by decide)
       rw[HA.out]at cW;have HQ3:=hD q3;clear hp1 hk1 q1 q2 q3 q4 q5 hxa)
    | (go_at_call 107;refine cW.mono ?_;clear cW;rintro e w4 ⟨lf4,F4,G4,_,_,r1,r2,r3,r4,r5,r6⟩
       obtain⟨yb,rfl,r7⟩:∃yb:Bool,e= .returned (.bool yb)/\((yb=true/\J ([]++Z1e (Z0f d T) key) G4 w4)\/(yb=false/\∃q,q <+: Z1e (Z0f d T) key/\Jx ([]++q) G4 w4)):=by
        rcases r6 with ⟨rfl,q⟩ | ⟨rfl,q⟩
        ·exact⟨true,rfl,.inl ⟨rfl,q⟩⟩
        ·exact⟨false,rfl,.inr ⟨rfl,q⟩⟩
       have R1:=hD r1;have R2:=hD r2;have R3:=hD r3;have R5:=hD r5;have R7:=hD r7;clear r1 r2 r3 r4 r5 r6 r7))
   go_end0
   refine⟨⟨_,rfl⟩,F4,G4,R1.out,R2.out,?_,?_⟩
   ·have hs:=HQ3.out.only.size;refine⟨(HQ3.out.only.ext (Ext.alloc _ _)).trans R3.out.only (fun i q=> ?_),fun i q=> ?_⟩
    ·rcases q with q | q
     ·exact HQ3.out.new i q
     ·exact .inr (by omega)
    ·rcases R3.out.new i (.inl q)with (r | r) | r
     ·exact HQ3.out.new i r
     ·exact .inr (by omega)
     ·rw[World.size_alloc]at r;exact .inr (by omega)
   ·rcases R7.out with ⟨_,q⟩ | ⟨_,q,h1,h2⟩
    ·exact .inl ⟨_,rfl,q⟩
    ·exact .inr ⟨q,h1,h2⟩
theorem X1w{t p i:Nat}{F:Nat->Prop}{S:StoreD}(T:TrD)(w:World)(ht:Z0b w t p i)(hnt:¬F t)(h:PagerAt w p F S)(hi:i<16)(hT:TrS S i T)(hd:T.fine):
  cQ 80 #[tp t] w fun e w'=>e= .returned (.bool (T.list.isEmpty))/\∃F',PagerAt w' p F' S/\Keeps F F' w w':=by
 obtain⟨out,hout⟩:∃out,T.list=out:=⟨_,rfl⟩;have hseq:=fun(m tb kb:Nat) (K:Nat->Prop) (w:World) (q1) (q2) (q3) (q4)=>Y0i (t:=t) (p:=p) (m:=m) (tb:=tb) (kb:=kb) (K:=K) ⟨#[]⟩ T w hT hd hi q1 q2 q3 q4;rw[show Z1e T.list ⟨#[]⟩=T.list from Z3s _,hout]at hseq;rw[hout];refine callsIn_wide (n:=3).1 ?_;refine callsIn_of_wp_marks Tryz.func80 rfl trivial ?_ rfl;simp only[Tryz.ntmps80,List.size_toArray,List.length_cons,List.length_nil,Nat.reduceAdd,Nat.reduceSub,Array.replicate_succ,Array.replicate_zero,List.push_toArray,List.append_toArray,List.nil_append,List.cons_append];have cA:=X3k t (w.alloc (.cells #[.bool false] 4));gi_wp2_with (refine ⟨trivial,?_⟩;gi_at_call 53;refine(callsIn_wide.2 cA).mono ?_;clear cA;rintro e w1 ⟨tb,kb,rfl,h1,h2,h3,h4,h5⟩);have hx:Ext w w1:=Ext.trans (Ext.alloc _ _) h1;have hB:Row1 w1 w.heap.size 4 [.bool false]:=(Row1.made w _ [.bool false]).ext h1 (by simp);rw[World.size_alloc]at h2 h3;have hB1:=hB.lt;have hb2:=h4.lt;have hb3:=h5.lt;refine Z2q rfl (by decide) (gf:=106) (lb:=#[tp tb,tp kb]) rfl trivial (enters_of Tryz.func106 (by kernel_rfl) rfl)
  (hseq _ tb kb (fun b=>b=tb\/b=kb) w1 h4 h5 (.inl rfl) (.inr rfl)) (Ext.refl w1) (fun _=>rfl) (fun j=>F j/\j<w.heap.size) (fun b=>b=w.heap.size) (ItT.abides (p:=p) (i:=i) (aE ht.lt hx.size))
  ⟨h.shrink.ext hx,ht.ext hx ht.lt,fun q=>hnt q.1,fun b q=>⟨fun r=>by rcases q with q | q<;>(subst q;have:=r.2;omega),by rcases q with q | q<;>(subst q;assumption)⟩⟩
  ⟨fun j q=>by have:=q.2;omega,fun j q=>by subst q;exact⟨hB1,fun r=>by have:=r.2;omega⟩⟩
  (fun pre G W=>G=(fun b=>b=w.heap.size)/\pre= []/\Row1 W w.heap.size 4 [.bool false])
  (fun c pre G W=>c= .ret/\G=(fun b=>b=w.heap.size)/\pre≠ []/\Row1 W w.heap.size 4 [.bool false])
  (fun s G W W' q q2 q3=>⟨q.1,q.2.1,q3.row q.2.2 (fun r=>r (by rw[q.1]))⟩)
  (fun c s G W W' q q2 q3=>⟨q.1,q.2.1,q.2.2.1,q3.row q.2.2.2 (fun r=>r (by rw[q.2.1]))⟩)
  ⟨rfl,rfl,hB⟩ (fun x=> { tmps:=#[tp t,undef,tp w.heap.size,tp t,.func (.func 106) #[] #[tp tb,tp kb],.string x.1,.string x.2],defers:= []}) ?assign ?body ?done ?stop
 case assign=>
  intro l x W K hK;simp only[X8i];gi_wp2;simpa using hK
 case body=>
  rintro l pre x W F1 G1 ⟨rfl,rfl,hr⟩ hit hd hok;have z0:W.cell? ⟨w.heap.size,0,none⟩=some (.bool false):=hr.cell 0;have z1:W.frozen? ⟨w.heap.size,0,none⟩=false:=hr.soft 0;have ho:=Y5o W w.heap.size 0 (.bool false);have hB9:¬F1 w.heap.size:=(hd.2 _ rfl).2;have hz:=Z1z W ⟨w.heap.size,0,none⟩ (.bool false);have A1:=hD (hit.only ho (fun j q q'=>by subst q';exact hB9 q) (fun q=>by have:=ht.lt;omega));have A2:Hid (Dis F1 (fun b=>b=w.heap.size) (W.setCell ⟨w.heap.size,0,none⟩ (.bool false))):=⟨fun j q=>by rw[hz];exact hd.1 j q,fun j q=>by rw[hz];exact hd.2 j q⟩;have A3:Hid (Keeps (Un F1 (fun b=>b=w.heap.size)) (Un F1 (fun b=>b=w.heap.size)) W (W.setCell ⟨w.heap.size,0,none⟩ (.bool false))):=⟨ho.mono (fun j q=> .inl (.inr q)),fun j q=> .inl q⟩;have A4:=hD (hr.set 0 (.bool false));clear hit hd hok ho hr hz;gi_wp2;exact⟨F1,_,A1.out,A2.out,A3.out,rfl,rfl,by simp,A4.out⟩
 case done=>
  rintro D xs W F1 G1 jH rfl ⟨rfl,rfl,hr⟩ hit hd hn1 hn2 hk hK;have z0:W.cell? ⟨w.heap.size,0,none⟩=some (.bool false):=hr.cell 0;have z1:W.frozen? ⟨w.heap.size,0,none⟩=false:=hr.soft 0;have hDB:¬D=w.heap.size:=hn2;have ho:=Y5o W w.heap.size 0 (.bool true);have hK2:(W.setCell ⟨w.heap.size,0,none⟩ (.bool true)).heap[D]? =some (.deferred (some [])):=(ho.block D (Array.getElem?_eq_some_iff.1 hK).1 hDB).trans hK;have ho2:=Only.putObj (W.setCell ⟨w.heap.size,0,none⟩ (.bool true)) D (.deferred none);have hrr:Row1 ((W.setCell ⟨w.heap.size,0,none⟩ (.bool true)).putObj D (.deferred none)) w.heap.size 4 [.bool true]:=ho2.row (hr.set 0 _) (fun q=>hDB q.symm);have HEND:=hD (Y9z (F:=F) hk (fun j q=>q.1) (aF _) hx hit.1 (hd.2 _ rfl).2 hn1 (by have:=hx.size;omega) ((ho.mono (fun j q=> .inl (.inl q))).trans' (ho2.mono (fun j q=> .inl (.inr q)))));have HK2:=hD hK2;have HRR:=hD hrr;clear hk hit hd hK hK2 hrr ho ho2 hr;gi_wp2;exact⟨by simp,.inl ⟨_,_,rfl,run_takeDeferred HK2.out,_,X4k rfl _ _ w.heap.size true rfl (HRR.out.cell 0),rfl,HEND.out⟩⟩
 case stop=>
  rintro D c pre W F1 G1 jH hpre ⟨rfl,rfl,hne,hr⟩ hit hd hn1 hn2 hk hK;have hDB:¬D=w.heap.size:=hn2;have ho2:=Only.putObj W D (.deferred none);have hrr:Row1 (W.putObj D (.deferred none)) w.heap.size 4 [.bool false]:=ho2.row hr (fun q=>hDB q.symm);have HEND:=hD (Y9z (F:=F) hk (fun j q=>q.1) (aF _) hx hit.1 (hd.2 _ rfl).2 hn1 (by have:=hx.size;omega) (ho2.mono (fun j q=> .inl (.inr q))));have HRR:=hD hrr;have HK:=hD hK;have HO:Hid (out.isEmpty=false):=by
   cases out with
   | nil=>exact absurd (List.prefix_nil.1 hpre) hne
   | cons _ _=>rfl
  clear hk hit hd hK hrr ho2 hr;gi_wp2;refine⟨by simp,.inl ⟨_,_,rfl,run_takeDeferred HK.out,_,X4k rfl _ _ w.heap.size false rfl (HRR.out.cell 0),by rw[HO.out],HEND.out⟩⟩
end
section
open Go.RowKit
theorem V4g(l:List OpD)(id:Int)(k:Nat)(h:k<l.length):delO (l.take (k+1)) id=delO (l.take k) id++(if l[k].id=id then []else [l[k]]):=by
 unfold delO;rw[List.take_succ_eq_append_getElem h,List.filter_append]
 congr 1
 by_cases e:l[k].id=id<;>simp[e]
theorem X5r(l:List OpD)(id:Int):(delO l id).length<=l.length:=List.length_filter_le _ _
theorem Y5l(V:Value)(l:List OpD)(id:Int)(w:World)(hs:Sl w 11 ROp V l)(hn:l.length<=100000000):
  cQ 70 #[V,.int .i64 id] w fun e w'=>(∃v,e= .returned v/\OwnL w' w.heap.size 73 11 OpD.cells v (delO l id))/\Ext w w':=by
 obtain⟨A,c,rfl⟩:=hs.form;obtain⟨_,hc1,hc2,hA⟩:=hs.at;have HA:=hD hA;clear hs hA;go_enter Tryz.func70,Tryz.ntmps70;go_wp2_with fail
 go_loopw [5,6] (fun v i wr=>∃k:Nat,k<=l.length/\i= .int .i64 k/\Ext w wr/\OwnL wr w.heap.size 73 11 OpD.cells v (delO (l.take k) id))
  (fun _ i _=>l.length-(intOf i).toNat)
 case atStart=>exact⟨0,by omega,rfl,Ext.refl _,OwnL.nil _ _ _ _ _⟩
 case round=>
  obtain⟨k,hk,rfl,hb,hown⟩:=hrel;have HB:=hD hb;have HO:=hD hown;have hzr:=hb.size;have HLEN:Hid ((delO (l.take k) id).length<=k):=by have:=X5r (l.take k) id;rw[aD]at this;unfold Hid;omega
  clear hb hown;by_cases hlt:k<l.length
  ·have hd:decide ((k:Int)<(l.length:Int))=true:=by simp;omega
   have HT:=hD (V4g l id k hlt);obtain⟨b,off,rfl,hbl,hx⟩:=HA.out (by omega);obtain⟨cs,rfl,_,hcs⟩:=hx k hlt;have HE:Hid (∀W:World,Ext w W->(W.cell? ⟨b,off+k*11,none⟩=some (.int .i64 l[k].id)/\W.cell? ⟨b,off+k*11+1,none⟩=some (.int .i64 l[k].proc)/\W.cell? ⟨b,off+k*11+2,none⟩=some (.int .i64 l[k].object)/\W.cell? ⟨b,off+k*11+3,none⟩=some (.int .i64 l[k].kind)/\W.cell? ⟨b,off+k*11+4,none⟩=some (.int .i64 l[k].method)/\W.cell? ⟨b,off+k*11+5,none⟩=some (.int .i64 l[k].arg)/\W.cell? ⟨b,off+k*11+6,none⟩=some (.int .i64 l[k].second)/\W.cell? ⟨b,off+k*11+7,none⟩=some (.bool l[k].done)/\W.cell? ⟨b,off+k*11+8,none⟩=some (.int .i64 l[k].result)/\W.cell? ⟨b,off+k*11+9,none⟩=some (.int .i64 l[k].invoke)/\W.cell? ⟨b,off+k*11+10,none⟩=some (.int .i64 l[k].ret))):=by intro W h;have hw:=fun j u hu=>(h.cell (p:=⟨b,off+k*11+j,none⟩) hbl).trans (hcs j u hu);exact⟨hw 0 _ rfl,hw 1 _ rfl,hw 2 _ rfl,hw 3 _ rfl,hw 4 _ rfl,hw 5 _ rfl,hw 6 _ rfl,hw 7 _ rfl,hw 8 _ rfl,hw 9 _ rfl,hw 10 _ rfl⟩
   clear hx hcs;generalize l[k]=x at *;generalize delO (l.take k) id=s at *;obtain⟨vA,vc,rfl⟩:=HO.out.form;have hbw:=aE hbl HB.out.size;obtain⟨e0,e1,e2,e3,e4,e5,e6,e7,e8,e9,e10⟩:=HE.out wr HB.out;by_cases heq:x.id=id
   ·have hq:(x.id !=id)=false:=by simpa using heq
    have HT3:Hid (delO (l.take (k+1)) id=s):=by unfold Hid;rw[HT.out,if_pos heq];simp
    clear heq HT;go_wp2_with fail
    go_roundw
    case measure=>simp[intOf];omega
    case rel=>
     exact⟨k+1,by omega,by go_num,HB.out,by rw[HT3.out];exact HO.out⟩
   ·have hq:(x.id !=id)=true:=by simpa using heq
    have HT3:Hid (delO (l.take (k+1)) id=s++ [x]):=by unfold Hid;rw[HT.out,if_neg heq]
    clear heq HT;go_wp2_with (at_builtin;refine Z2u elOp Y0a X0j rfl (.tmp 20) (.tmp 25) rfl _ s rfl (HO.out.ext (by exact Xt)) (by simp;omega) _ 1 x rfl (Row1.made _ _ x.cells) (by have:=HLEN.out;omega) (by decide) ?_);intro pA pc wp hp hgp;have HXP:=hD ((HO.out.ext (by exact Xt)).grown (a:=w) (by exact Xx (HB.out)) hgp (by simp));have HP:=hD hp;clear hp hgp;go_wp2_with fail
    go_roundw
    case measure=>simp[intOf];omega
    case rel=>
     exact⟨k+1,by omega,by go_num,HXP.out,by rw[HT3.out];exact HP.out⟩
  ·obtain rfl:k=l.length:=by omega
   have hd:decide ((l.length:Int)<(l.length:Int))=false:=by simp
   rw[List.take_length]at HO HLEN;obtain⟨s,hs⟩:∃s,delO l id=s:=⟨_,rfl⟩;rw[hs]at HO HLEN;have HS:=hD hs;clear hs;obtain⟨vA,vc,rfl⟩:=HO.out.form;go_wp2_with fail;go_ret;exact⟨⟨_,rfl,by rw[HS.out];exact HO.out⟩,HB.out⟩
theorem X6q{tb p:Nat}{ts:Nat->Nat}{F:Nat->Prop}(o:OpD)(w:World)(ht:TblAt w tb p ts F)(ho:Z1p o≠0)(hr:In64 o.result):
  cQ 69 #[tp tb,o.val] w fun e w'=>e= .returned (.int .i64 (Z1p o))/\Ext w w':=by
 obtain⟨W0,hW0⟩:∃W0,w.alloc (.cells #[.int .i64 o.id,.int .i64 o.proc,.int .i64 o.object,.int .i64 o.kind,.int .i64 o.method,.int .i64 o.arg,.int .i64 o.second,.bool o.done,.int .i64 o.result,.int .i64 o.invoke,.int .i64 o.ret] 73)=W0:=⟨_,rfl⟩;have HX0:Hid (Ext w W0):=by unfold Hid;rw[<-hW0];exact Ext.alloc _ _
 have HR0:Hid (Row1 W0 w.heap.size 73 o.cells):=by unfold Hid;rw[<-hW0];exact Row1.made w _ _
 have cE:Hid (∀W,cQ 131 #[.agg #[.int .i64 o.id,.int .i64 o.proc,.int .i64 o.object,.int .i64 o.kind,.int .i64 o.method,.int .i64 o.arg,.int .i64 o.second,.bool o.done,.int .i64 o.result,.int .i64 o.invoke,.int .i64 o.ret]] W fun e w'=>e= .returned (.tuple #[.string ⟨#[]⟩,.int .i64 (Z1p o)])/\Ext W w'):=fun W=>by have h1:=Z7j o W hr;rw[if_neg ho]at h1;exact h1
 have cM:Hid (∀W,Ext w W->cQ 85 #[tp tb] W fun e w'=>e= .returned (.bool true)/\W=w'):=fun W hW=>Z2v W (ht.ext hW).row;obtain⟨c,hc⟩:∃c,Z1p o=c:=⟨_,rfl⟩;rw[hc]at cE ho ⊢;have q1:(c==0)=false:=by simpa using ho
 have q2:(c !=0)=true:=by simpa using ho
 clear hc ht hr;go_enter Tryz.func69,Tryz.ntmps69;go_upto_region 1 with fail;clear hW0;obtain⟨b0,b1,b2,b3,b4,b5,b6,b7,b8,b9,b10⟩:=At11.row HR0.out;go_wp2_with (first
  | (go_at_call 131;(with_reducible refine(cE.out _).mono ?_);clear cE;rintro e w1 ⟨rfl,hb1⟩;have b0:=(At11.row (HR0.out.ext hb1 HR0.out.lt)).1;have HB1:Hid (Ext w w1):=HX0.out.trans hb1;clear hb1)
  | (go_at_call 85;(with_reducible refine(cM.out _ HB1.out).mono ?_);clear cM;rintro e w2 ⟨rfl,rfl⟩))
 go_ret;exact⟨rfl,HB1.out⟩
def RIn(x:Int)(cs:List Value):Prop:=cs=encN x
theorem V6s{W:World}{g base:Nat}{l:List Int}(h:Row1 W g 3 (l.flatMap encN))(hl:l.length<=100)(hb:base<=g):OwnL W base 3 1 encN (.slice (some ⟨g,0,none⟩) l.length l.length) l:=
 OwnL.ofRow (spare:= []) (by rw[List.append_nil];exact h) hb (aF _) (by omega) (by rw[List.append_nil];exact(Z3i encN 1 Z0j l).symm▸rfl) Z0j
def wayI(way:Int)(o:OpD):List Int:=if 0<=way/\way<5 then wayL way.toNat o else []
theorem Y2f(way:Int)(o:OpD)(w:World):cQ 30 #[.int .i64 way,o.val] w fun e w'=>(∃v,e= .returned v/\OwnL w' w.heap.size 3 1 encN v (wayI way o))/\Ext w w':=by
 have HBX:Hid (∀W:World,Ext (w.alloc (.cells #[.int .i64 o.id,.int .i64 o.proc,.int .i64 o.object,.int .i64 o.kind,.int .i64 o.method,.int .i64 o.arg,.int .i64 o.second,.bool o.done,.int .i64 o.result,.int .i64 o.invoke,.int .i64 o.ret] 73)) W->At11 W w.heap.size o):=fun W h=>(At11.row (Row1.made w 73 o.cells)).ext h (by simp);obtain⟨h0,h1,h2,h3,h4,h5,h6,h7,h8,h9,h10⟩:=HBX.out _ (Ext.refl _);have HE:Hid (endI o=if o.done=true then o.ret else 1099511627777):=rfl;have HO:Hid (∀(l:List Int) (W:World),W.heap.size=w.heap.size+1->l.length<=3->OwnL (W.alloc (.cells (l.flatMap encN).toArray 3)) w.heap.size 3 1 encN (.slice (some ⟨w.heap.size+1,0,none⟩) l.length l.length) l):=fun l W hW hl=>V6s (Row1.made' hW _ _) (by omega) (by omega);go_enter Tryz.func30,Tryz.ntmps30
 go_upto_if 10 with fail
 go_cut [5] (fun s wx=>s= .int .i64 (endI o)/\w.alloc (.cells #[.int .i64 o.id,.int .i64 o.proc,.int .i64 o.object,.int .i64 o.kind,.int .i64 o.method,.int .i64 o.arg,.int .i64 o.second,.bool o.done,.int .i64 o.result,.int .i64 o.invoke,.int .i64 o.ret] 73)=wx)
 case first=>
  cases hd:o.done with
  | true=>
    rw[hd]at h7;go_wp2_with fail
    go_meet
    exact⟨by rw[HE.out,if_pos hd],by rw[hd]⟩
  | false=>
    rw[hd]at h7;go_wp2_with fail
    go_meet
    exact⟨by rw[HE.out,if_neg (by rw[hd];simp)],by rw[hd]⟩
 case rest=>
 obtain⟨rfl,rfl⟩:=hcut;clear HE;by_cases q0:way=0
 ·subst q0;go_wp2_with fail;go_ret;exact⟨⟨_,rfl,HO.out (wayL 0 o) _ (by simp) (Z3w 0 o).2⟩,by exact Xt⟩
 by_cases q1:way=1
 ·subst q1;go_wp2_with fail;go_ret;exact⟨⟨_,rfl,HO.out (wayL 1 o) _ (by simp) (Z3w 1 o).2⟩,by exact Xt⟩
 by_cases q2:way=2
 ·subst q2;go_wp2_with fail;go_ret;exact⟨⟨_,rfl,HO.out (wayL 2 o) _ (by simp) (Z3w 2 o).2⟩,by exact Xt⟩
 by_cases q3:way=3
 ·subst q3;go_wp2_with fail;go_ret;exact⟨⟨_,rfl,HO.out (wayL 3 o) _ (by simp) (Z3w 3 o).2⟩,by exact Xt⟩
 by_cases q4:way=4
 ·subst q4;go_wp2_with fail;go_ret;exact⟨⟨_,rfl,HO.out (wayL 4 o) _ (by simp) (Z3w 4 o).2⟩,by exact Xt⟩
 have z0:(way==0)=false:=by simpa using q0
 have z1:(way==1)=false:=by simpa using q1
 have z2:(way==2)=false:=by simpa using q2
 have z3:(way==3)=false:=by simpa using q3
 have z4:(way==4)=false:=by simpa using q4
 have HN:Hid (wayI way o= []):=by unfold Hid wayI;rw[if_neg (by omega)]
 go_wp2_with fail;go_ret;exact⟨⟨_,rfl,by rw[HN.out];exact OwnL.nil _ _ _ _ _⟩,by exact Xt⟩
def ltI:List Int->List Int->Bool
 | [],[]=>false
 | [],_::_=>true
 | _::_,[]=>false
 | x::a,y::b=>if x=y then ltI a b else decide (x<y)
theorem V1y:∀(a b:List Int),ltI a b=true↔a<b
 | [],[]=>by simp[ltI]
 | [],y::b=>by simp[ltI]
 | x::a,[]=>by simp[ltI]
 | x::a,y::b=>by
   unfold ltI;rw[List.cons_lt_cons_iff];by_cases e:x=y
   ·rw[if_pos e,V1y a b];subst e;constructor
    ·exact fun h=> .inr ⟨rfl,h⟩
    ·rintro(h | ⟨_,h⟩)
     ·omega
     ·exact h
   ·rw[if_neg e,decide_eq_true_iff];constructor
    ·exact fun h=> .inl h
    ·rintro(h | ⟨h,_⟩)
     ·exact h
     ·exact absurd h e
theorem V7j{a b:List Int}{k:Nat}(ha:k<a.length)(hb:k<b.length):ltI (a.drop k) (b.drop k)=if a[k]=b[k]then ltI (a.drop (k+1)) (b.drop (k+1))else decide (a[k]<b[k]):=by rw[List.drop_eq_getElem_cons ha,List.drop_eq_getElem_cons hb];rfl
theorem V1z{a b:List Int}{k:Nat}(ha:k<=a.length)(hb:k<=b.length)(h:k=a.length\/k=b.length):ltI (a.drop k) (b.drop k)=decide (a.length<b.length):=by
 rcases h with h | h
 ·rw[List.drop_eq_nil_of_le (by omega:a.length<=k)];cases hd:b.drop k with
  | nil=>
    have:b.length-k=0:=by rw[<-aJ,hd];rfl
    simp only[ltI];exact(decide_eq_false (by omega)).symm
  | cons y r=>
    have:b.length-k=r.length+1:=by rw[<-aJ,hd];rfl
    simp only[ltI];exact(decide_eq_true (by omega)).symm
 ·rw[List.drop_eq_nil_of_le (by omega:b.length<=k)];cases hd:a.drop k with
  | nil=>simp only[ltI];exact(decide_eq_false (by omega)).symm
  | cons y r=>simp only[ltI];exact(decide_eq_false (by omega)).symm
theorem Z7e(V U:Value)(a b:List Int)(w:World)(hs:Sl w 1 RIn V a)(hu:Sl w 1 RIn U b):
  cQ 90 #[V,U] w fun e w'=>e= .returned (.bool (ltI a b))/\Ext w w':=by
 obtain⟨A,c,rfl⟩:=hs.form;obtain⟨B,d,rfl⟩:=hu.form;obtain⟨_,hc1,hc2,hA⟩:=hs.at;obtain⟨_,hd1,hd2,hB⟩:=hu.at;have HA:=hD hA;have HB:=hD hB;clear hs hu hA hB;obtain⟨r,hr⟩:∃r,ltI a b=r:=⟨_,rfl⟩;have HR:Hid (ltI (a.drop 0) (b.drop 0)=r):=hr;rw[hr];clear hr;go_enter Tryz.func90,Tryz.ntmps90;go_wp2_with fail
 go_loopw [5] (fun i wr=>∃k:Nat,k<=a.length/\k<=b.length/\i= .int .i64 k/\(∃q,wr=w.drewN q)/\Hid (ltI (a.drop k) (b.drop k)=r)) (fun i _=>a.length-(intOf i).toNat)
 case atStart=>exact⟨0,by omega,by omega,rfl,⟨0,rfl⟩,HR⟩
 case round=>
  obtain⟨k,hka,hkb,rfl,⟨q,rfl⟩,hf⟩:=hrel;have HF:=hD hf;clear hf HR;by_cases hla:k<a.length
  ·have hda:decide ((k:Int)<(a.length:Int))=true:=by simp;omega
   by_cases hlb:k<b.length
   ·have hdb:decide ((k:Int)<(b.length:Int))=true:=by simp;omega
    obtain⟨g,off,rfl,hbl,hx⟩:=HA.out (by omega);obtain⟨g',off',rfl,hbl',hx'⟩:=HB.out (by omega);obtain⟨cs,rfl,_,hcs⟩:=hx k hla;obtain⟨cs',rfl,_,hcs'⟩:=hx' k hlb;have h0:=hcs 0 _ rfl;have g0:=hcs' 0 _ rfl;simp only[Nat.add_zero,Nat.mul_one]at h0 g0;have HD:Hid ((if a[k]=b[k]then ltI (a.drop (k+1)) (b.drop (k+1))else decide (a[k]<b[k]))=r):=by unfold Hid;rw[<-V7j hla hlb];exact HF.out.out
    clear hx hcs hx' hcs' HF;generalize a[k]=x at *;generalize b[k]=y at *;by_cases he:x=y
    ·subst he;have e1:(x !=x)=false:=bne_self_eq_false _;have HN:Hid (ltI (a.drop (k+1)) (b.drop (k+1))=r):=by have h:=HD.out;rw[if_pos rfl]at h;exact h
     clear HD;go_wp2_with fail
     go_quiet (fail)
     go_wp2_with fail
     go_roundw
     case measure=>simp[intOf];omega
     case rel=>exact⟨k+1,by omega,by omega,by go_num,⟨_,rfl⟩,HN⟩
    ·have e1:(x !=y)=true:=by simpa using he
     have HN:Hid (decide (x<y)=r):=by have h:=HD.out;rw[if_neg he]at h;exact h
     clear HD;go_wp2_with fail
     go_quiet (fail)
     go_wp2_with fail
     go_quiet (fail)
     go_wp2_with fail;go_ret;exact⟨by rw[HN.out];rfl,by exact Xt⟩
   ·have hdb:decide ((k:Int)<(b.length:Int))=false:=by simp;omega
    have HN:Hid (decide (a.length<b.length)=r):=by unfold Hid;rw[<-HF.out.out,V1z hka hkb (.inr (by omega))]
    go_wp2_with fail;go_ret;exact⟨by rw[<-HN.out];show _=Ending.returned (.bool _);simp,by exact Xt⟩
  ·have hda:decide ((k:Int)<(a.length:Int))=false:=by simp;omega
   have HN:Hid (decide (a.length<b.length)=r):=by unfold Hid;rw[<-HF.out.out,V1z hka hkb (.inl (by omega))]
   go_wp2_with fail;go_ret;exact⟨by rw[<-HN.out];show _=Ending.returned (.bool _);simp,by exact Xt⟩
end
end Go.Proofs.YtohaldfnmgcofaaGreat
