/- The statement of layer 13's soundness: nothing is ever out of order, and the pages are just those that are given out. The walk. Conditions: acts that can be read. -/
import Derived.Test.YtohaldfnmgcofaaGreatT40
import Derived.Test.YtohaldfnmgcofaaGreatT34
set_option maxRecDepth 100000
set_option maxHeartbeats 16000000
set_option linter.unusedSimpArgs false
set_option linter.unusedVariables false
namespace Go.Proofs.YtohaldfnmgcofaaGreat
open Go.RowKit
section
variable {S:StoreD} {Ts:Nat->TrD} {l:List OpD}
theorem Tab.finds_all(hT:Tab S Ts (fun _=>l))(hr:Ris l):Finds Ts 0 ⟨#[]⟩ l l l.length:=by obtain⟨all,hf,_⟩:=hT.all;have e:=Tab.all_eq hT hr hf;subst e;exact hf
theorem V2n{i:Nat}(h:Z6w (Ts i).list):(klF Ts i).Pairwise (fun a b=>a.1≠b.1):=by unfold klF;rw[Z3s];exact h.imp (fun h=>Z2l h)
theorem V2o{i n:Nat}{L:List KV}(h:Z6w (Ts i).list)(hs:∀x∈(Ts i).list,x∈L)(hn:L.length<=n):(klF Ts i).length<=n:=by unfold klF;rw[Z3s];have hnd:(Ts i).list.Nodup:=List.nodup_iff_pairwise_ne.2 (h.imp (fun {a b} h e=>Z2l h (congrArg Prod.fst e)));exact Nat.le_trans (hnd.length_le_of_subset hs) hn
theorem Tab.mem_kl(hT:Tab S Ts (fun _=>l))(i:Nat)(hi:i<5):∀x∈(Ts i).list,x∈l.map (fun o=>(wayK i o,recW i o)):=fun x hx=>by obtain⟨o,ho,rfl⟩:=(hT.mem i hi x).1 hx;exact List.mem_map.2 ⟨o,ho,rfl⟩
theorem Tab.way_ok(hT:Tab S Ts (fun _=>l))(i:Nat)(hi:i<5)(out:List (Int×Int)):trW i l (klF Ts i) out=out:=
 U2e i l _ out (V2n (hT.tr i hi).rise) (fun x=>by unfold klF;rw[Z3s];exact hT.mem i hi x)
end
theorem Finds.upd{Ts:Nat->TrD}{fr:ByteArray}{l all:List OpD}{k wn:Nat}{T':TrD}(hf:Finds Ts 0 fr l all k)(hw:0≠wn):Finds (updF Ts wn T') 0 fr l all k:=
 ⟨by rw[Z0i _ _ hw];exact hf.outs,hf.mem,hf.under,hf.stop,hf.le⟩
structure TrbR (S:StoreD) (Ts:Nat->TrD) (l:List OpD) (r:List (Int×Int)):Prop where
 fm:Fm S
 tr:∀i,i<5->TrS S i (Ts i)
 ok:∀o∈l,Z1p o=0
 dep:∀i,i<5->depT (Ts i)<=31
 fnd:Finds Ts 0 ⟨#[]⟩ l l l.length
 few:l.length<=40
 kl:∀i,i<5->(klF Ts i).length<=1000
 res:trAll l (klF Ts) 5=r
theorem V9t(T:TrD):depT T=depD T:=by cases T<;>rfl
section
variable {S S':StoreD} {Ts:Nat->TrD} {l:List OpD} {wn:Nat} {T':TrD}
theorem V5k{o:OpD}(hT:Tab S Ts (fun _=>l))(hr:Ris l)(hd:∀i,i<5->depT (Ts i)<=31)(hn:l.length<=40)(h0:0≠wn)(h5:wn<5)(ho:o∈l)(hp:Z8t S wn (wayK wn o) S' T' (Ts wn)):TrbR S' (updF Ts wn T') l [((wn:Int),o.id)]:=by
 obtain⟨G,hl⟩:=Y0n (by omega) hp hT.fm (hT.tr wn h5) ⟨_,(hT.mem wn h5 _).2 ⟨o,ho,rfl⟩,rfl⟩;have h':=hT.del h5 ho hl;have hfl:l.Nodup:=hr.imp (fun {a b} h e=>by rw[e]at h;omega);have hmw:∀x:KV,x∈klF (updF Ts wn T') wn↔∃a∈l,a≠o/\x=(wayK wn a,recW wn a):=fun x=>by
  unfold klF;rw[Z3s,h'.mem wn h5,Z0p];constructor
  ·rintro⟨a,ha,e⟩;obtain⟨h1,h2⟩:=Z5k.1 ha;exact⟨a,h1,fun q=>h2 (by rw[q]),e⟩
  ·rintro⟨a,ha,hne,e⟩;exact⟨a,Z5k.2 ⟨ha,fun q=>hne (Y4p (hT.ids wn h5) ha ho q)⟩,e⟩
 have hinj:∀a∈l,∀b∈l,wayK wn a=wayK wn b->a=b:=fun a ha b hb e=>Y4p (hT.ids wn h5) ha hb (Z8c (OpIn.way (OpIn.of (hT.ok wn h5 a ha)) wn) (OpIn.way (OpIn.of (hT.ok wn h5 b hb)) wn) e);refine⟨h'.fm,h'.tr,hT.ok 0 (by omega),fun i hi=> ?_,(hT.finds_all hr).upd h0,hn,fun i hi=> ?_,Y6a (w:=wn) (fun i hi hne out=> ?_) (fun out=> ?_) h5⟩
 ·by_cases e:i=wn
  ·subst e;rw[Z0p,V9t];have:=hl.dep;have:=hd i hi;rw[V9t]at this;omega
  ·rw[Z0i _ _ e];exact hd i hi
 ·refine V2o (h'.tr i hi).rise (L:=l.map (fun o=>(wayK i o,recW i o))) (fun x hx=> ?_) (by rw[List.length_map];omega);obtain⟨a,ha,rfl⟩:=(h'.mem i hi x).1 hx;refine List.mem_map.2 ⟨a,?_,rfl⟩;by_cases e:i=wn
  ·subst e;rw[Z0p]at ha;exact(Z5k.1 ha).1
  ·rw[Z0i _ _ e]at ha;exact ha
 ·have e:klF (updF Ts wn T') i=klF Ts i:=by unfold klF;rw[Z0i _ _ hne]
  rw[e];exact hT.way_ok i hi out
 ·exact V5m wn l o _ out (fun e=>h0 e.symm) (V2n (h'.tr wn h5).rise) ho hfl hinj hmw
theorem V5j{k:ByteArray}(hT:Tab S Ts (fun _=>l))(hr:Ris l)(hd:∀i,i<5->depT (Ts i)<=30)(hn:l.length<=40)(h0:0≠wn)(h5:wn<5)(hk:Z2o k)(hno:∀o∈l,wayK wn o≠k)(hp:Y0r S wn k ⟨#[]⟩ S' T' (Ts wn)):TrbR S' (updF Ts wn T') l [((wn:Int),0)]:=by
 obtain⟨F,hl⟩:=Z9x (by omega) hp hT.fm (hT.tr wn h5) hk (by decide);have hdp:=X0d hp;have htr:∀i,i<5->TrS S' i (updF Ts wn T' i):=fun i hi=>by
  by_cases e:i=wn
  ·subst e;rw[Z0p];exact hl.tr
  ·rw[Z0i _ _ e];refine TrS.other hl.big (by omega) e (hT.tr i hi) (fun b hb=>⟨fun q=>hT.disj i wn hi h5 e b hb q,fun q=> ?_,by simp⟩);have:=((hT.tr i hi).given b hb).2.2;rw[(hl.fresh b q).1]at this;cases this
 have hmw:∀x:KV,x∈klF (updF Ts wn T') wn↔x=(k,⟨#[]⟩)\/∃a∈l,x=(wayK wn a,recW wn a):=fun x=>by
  unfold klF;rw[Z3s,Z0p,hl.list,X0y (hT.tr wn h5).rise];constructor
  ·rintro(h | ⟨h,_⟩)
   ·exact .inl h
   ·exact .inr ((hT.mem wn h5 x).1 h)
  ·rintro(h | ⟨a,ha,rfl⟩)
   ·exact .inl h
   ·exact .inr ⟨(hT.mem wn h5 _).2 ⟨a,ha,rfl⟩,hno a ha⟩
 refine⟨hT.fm.big hl.big (fun b q=>by cases q),htr,hT.ok 0 (by omega),fun i hi=> ?_,(hT.finds_all hr).upd h0,hn,fun i hi=> ?_,Y6a (w:=wn) (fun i hi hne out=> ?_) (fun out=> ?_) h5⟩
 ·by_cases e:i=wn
  ·subst e;rw[Z0p];have:=hd i hi;omega
  ·rw[Z0i _ _ e];have:=hd i hi;omega
 ·refine V2o (htr i hi).rise (L:=(k,⟨#[]⟩)::l.map (fun o=>(wayK i o,recW i o))) (fun x hx=> ?_) (by rw[List.length_cons,List.length_map];omega);by_cases e:i=wn
  ·subst e;have h1:=(hmw x).1 (by unfold klF;rw[Z3s];exact hx);rcases h1 with rfl | ⟨a,ha,rfl⟩
   ·exact List.mem_cons_self
   ·exact List.mem_cons_of_mem _ (List.mem_map.2 ⟨a,ha,rfl⟩)
  ·rw[Z0i _ _ e]at hx;exact List.mem_cons_of_mem _ (hT.mem_kl i hi x hx)
 ·have e:klF (updF Ts wn T') i=klF Ts i:=by unfold klF;rw[Z0i _ _ hne]
  rw[e];exact hT.way_ok i hi out
 ·exact V5l wn l k _ out (V2n (htr wn h5).rise) hno hmw
end
abbrev TroR(tb:Nat)(r:List (Int×Int))(Q:(Nat->Prop)->World->Prop)(w0:World):Prop:=
 ∀F W,Q F W->cQ 32 #[tp tb] W fun e w'=>∃A c,e= .returned (.slice A r.length c)/\OwnL w' W.heap.size 90 2 Z6v (.slice A r.length c) r/\Ext w0 w'/\Only F W w'
theorem LawI.open_{w0 w:World}{tb p bl:Nat}{ts:Nat->Nat}{l:List OpD}{t:Nat}{F:Nat->Prop}(wn:Nat)(h:LawI w0 tb p bl ts l t F w)(ht:t<=20)(h1:0<wn)(h5:wn<5):
  ∃(P:Nat->(Nat->Prop)->World->Prop) (lA:Option Addr) (lc:Nat),(∀tr F W W',P tr F W->Ext W W'->P tr F W')/\(∀tr F W,P tr F W->(∀i,F i->i<W.heap.size)/\W.cell? ⟨bl,0,none⟩=some (.slice lA l.length lc)/\bl<W.heap.size/\Sl W 11 ROp (.slice lA l.length lc) l/\Ext w0 W)/\(∀o∈l,Z1p o=0)/\l.length<=40/\
   cQ 28 #[tp p,.int .i64 (wn:Nat)] w (fun e w'=>∃tr F',e= .returned (.tuple #[tp tr,.int .i64 0])/\P tr F' w')/\
   (∀tr F' W o,P tr F' W->o∈l->cQ 31 #[tp tr,.string (wayK wn o)] W fun e w'=>e= .returned (.int .i64 0)/\∃Q F2,Q F2 w'/\TroR tb [((wn:Int),o.id)] Q w0/\Keeps F' F2 W w')/\
   (∀tr F' W k,P tr F' W->Z2o k->(∀o∈l,wayK wn o≠k)->cQ 34 #[tp tr,.string k,.string ⟨#[]⟩] W fun e w'=>e= .returned (.int .i64 0)/\∃Q F2,Q F2 w'/\TroR tb [((wn:Int),0)] Q w0/\Keeps F' F2 W w'):=by
 obtain⟨C,S,Ts,z1,z2,z3⟩:=h.doz.ex;obtain⟨lA,n,lc,r1,r2,r3⟩:=h.doz.list;have hln:n=l.length:=by obtain⟨A',c',e⟩:=r2.form;injection e
 subst hln;have hlen:=h.len;have hts:∀j,j<5->ts j<w.heap.size:=fun j hj=>(h.doz.at_.tree j hj).lt;have hdep:∀i,i<5->depT (Ts i)<=30:=fun i hi=>by have:=z1.pot i hi;have h2:=Y8g (Ts i);rw[Y0b]at h2;omega
 have hroom:=(z1.more (show t<=39 by omega)).enough (by have:=Y7q.1;exact this);have hneed:=Y2v Ts wn 5 h5;have hcall:∀ {S':StoreD} {T':TrD} {r:List (Int×Int)},TrbR S' (updF Ts wn T') l r->TroR tb r (fun F W=>TblAt W tb p ts F/\PagerAt W p F S'/\(∀i,F i->i<W.heap.size)/\Keeps (fun i=>w0.heap.size<=i) F w0 W) w0:=by intro S' T' r hR F W q;obtain⟨a1,a2,a3,a4⟩:=q;refine(Y3g (S:=S') (Ts:=updF Ts wn T') (ls:=l) (all:=l) W a1 a2 a3 hR.fm hR.tr hR.ok hR.dep hR.fnd (by have:=hR.few;omega) hR.kl).mono ?_;rintro e w' ⟨A,c,F2,rfl,b1,b2,b3,b4⟩;rw[hR.res]at b1 ⊢;exact⟨A,c,rfl,b1,((a4.trans b4).only).toExt (fun i q=>q),b4.only⟩
 have hkw:∀(F1:Nat->Prop) (W:World),Keeps F F1 w W->Keeps (fun i=>w0.heap.size<=i) F1 w0 W:=fun F1 W k=>by
  refine⟨(Only.of h.ext).trans k.only (fun i q=> .inr (h.new i q)),fun i q=> ?_⟩;rcases k.new i q with s | s
  ·exact .inr (h.new i s)
  ·exact .inr (by have:=h.ext.size;omega)
 refine⟨fun tr F1 W=>TblAt W tb p ts F1/\PagerAt W p F1 S/\(∀i,F1 i->i<W.heap.size)/\Keeps F F1 w W/\Z0b W tr p wn/\¬F1 tr,lA,lc,?_,?_,h.doz.ex.elim (fun _ _=>z1.tab.ok 0 (by omega)),by omega,?_,?_,?_⟩
 ·rintro tr F1 W W' ⟨a1,a2,a3,a4,a5,a6⟩ hx;exact⟨a1.ext hx,a2.ext hx,fun i q=>aE (a3 i q) hx.size,a4.ext hx,a5.ext hx a5.lt,a6⟩
 ·rintro tr F1 W ⟨a1,a2,a3,a4,a5,a6⟩;have hb:=a4.only.row r1 h.doz.nl;exact⟨a3,hb.cell 0,hb.lt,(r2.only a4.only (fun b q r=>r3 b q r)).sl (fun _=>rfl) (fun _=>rfl),((hkw F1 W a4).only).toExt (fun i q=>q)⟩
 ·refine(Y9m w z3 (by omega)).mono ?_;rintro e w' ⟨tr,F',rfl,b1,b2,b3,b4,b5⟩;exact⟨tr,fun i=>F' i/\i<w'.heap.size,rfl,⟨b3.only.row h.doz.at_.row h.doz.at_.out,fun j hj=>b3.only.row (h.doz.at_.tree j hj) (h.doz.at_.outs j hj),fun q=>b3.out h.doz.at_.row.lt h.doz.at_.out q.1,fun j hj q=>b3.out (hts j hj) (h.doz.at_.outs j hj) q.1⟩,b2.shrink,fun i q=>q.2,b3.shrink,b1,fun q=>b4 q.1⟩
 ·rintro tr F' W o ⟨a1,a2,a3,a4,a5,a6⟩ ho;refine(X4a (Ts wn) (wayK wn o) W a5 a6 a2 z1.tab.fm (by omega) (z1.tab.tr wn h5) (Z4a (by have:=hdep wn h5;omega)) ⟨_,(z1.tab.mem wn h5 _).2 ⟨o,ho,rfl⟩,rfl⟩).mono ?_;rintro e w' ⟨rfl,S',T',F2,hp,b2,b3⟩;have hR:=V5k z1.tab z1.ris (fun i hi=>by have:=hdep i hi;omega) (by omega) (by omega) h5 ho hp;exact⟨rfl,_,fun i=>F2 i/\i<w'.heap.size,⟨⟨b3.only.row a1.row a1.out,fun j hj=>b3.only.row (a1.tree j hj) (a1.outs j hj),fun q=>b3.out a1.row.lt a1.out q.1,fun j hj q=>b3.out (a1.tree j hj).lt (a1.outs j hj) q.1⟩,b2.shrink,fun i q=>q.2,hkw _ _ (a4.trans b3.shrink)⟩,hcall hR,b3.shrink⟩
 ·rintro tr F' W k ⟨a1,a2,a3,a4,a5,a6⟩ hk hno;refine(Y7o (Ts wn) k ⟨#[]⟩ W a5 a6 a2 (by omega) z1.tab.fm (z1.tab.tr wn h5) hk (by decide) (by omega) (Z4a (by have:=hdep wn h5;omega))).mono ?_;rintro e w' ⟨rfl,S',T',hp,F2,b2,b3⟩;have hR:=V5j z1.tab z1.ris hdep (by omega) (by omega) h5 hk hno hp;exact⟨rfl,_,fun i=>F2 i/\i<w'.heap.size,⟨⟨b3.only.row a1.row a1.out,fun j hj=>b3.only.row (a1.tree j hj) (a1.outs j hj),fun q=>b3.out a1.row.lt a1.out q.1,fun j hj q=>b3.out (a1.tree j hj).lt (a1.outs j hj) q.1⟩,b2.shrink,fun i q=>q.2,hkw _ _ (a4.trans b3.shrink)⟩,hcall hR,b3.shrink⟩
theorem V7i(a:List Int):ltI a a=false:=by
 cases h:ltI a a with
 | false=>rfl
 | true=>have:=X0r a a h;rw[h]at this;cases this
theorem V9o{w:World}{base c:Nat}{A:Option Addr}{x y:Int}(h:OwnL w base 90 2 Z6v (.slice A 1 c) [(x,y)]):∃b off,A=some ⟨b,off,none⟩/\b<w.heap.size/\1<=c/\w.cell? ⟨b,off,none⟩=some (.int .i64 x)/\w.cell? ⟨b,off+1,none⟩=some (.int .i64 y):=by have hs:Sl w 2 (fun z cs=>cs=Z6v z) (.slice A 1 c) [(x,y)]:=h.sl Z7v (fun _=>rfl);obtain⟨_,h1,_,h3⟩:=hs.at;obtain⟨b,off,rfl,hb,hx⟩:=h3 (by simp);obtain⟨cs,hc,_,hcs⟩:=hx 0 (by simp);subst hc;exact⟨b,off,rfl,hb,by simpa using h1,by have:=hcs 0 _ rfl;simpa using this,by have:=hcs 1 _ rfl;simpa using this⟩
theorem Y0y(hAw:∀w,cQ 27 #[] w fun e w'=>e= .returned (.bool true)/\Ext w w')(V U:Value)(acts:List (Int×OpD))(way which:Int)(lacks:Bool)(fl:List Int)(w:World)(hs:Sl w 12 RAct V acts)(hin:∀a∈acts,In64 a.2.id/\In64 a.2.result)
 (hway:0<=way/\way<256)(hwh:0<=which/\which<18446744073709551616)(hu:Sl w 1 RIn U fl)(hl:∀x∈fl,In64 x):
  cQ 8 #[V,.int .u8 way,.bool lacks,.int .u64 which,U] w fun e w'=>e= .returned (.bool true)/\Ext w w':=by
 obtain⟨A,c,rfl⟩:=hs.form;obtain⟨B,d0,rfl⟩:=hu.form;obtain⟨_,hc1,hc2,hA⟩:=hs.at;have HA:=hD hA;have HIN:=hD hin;have HAW:=hD hAw;have HU:=hD hu;have HFL:=hD hl;have HWH:=hD hwh;have cB:=Y5h w;obtain⟨yn,rfl⟩:∃n:Nat,way=n:=⟨way.toNat,by omega⟩;obtain⟨r,hr4⟩:∃r,yn%4=r:=⟨_,rfl⟩;have hrl:r<4:=by omega
 have hr5:(yn:Int).tmod 4=(r:Int):=by rw[Int.tmod_eq_emod_of_nonneg (by omega)];omega
 have hr6:(yn:Int)%4=(r:Int):=by omega
 have hr7:IntKind.u8.wrap (r:Int)=r:=by rw[IntKind.wrap_u8];omega
 have hr8:IntKind.i64.wrap (r:Int)=r:=by rw[IntKind.wrap_i64];omega
 obtain⟨wi,hwi⟩:∃wi:Int,((r+1:Nat):Int)=wi:=⟨_,rfl⟩;have hr9:IntKind.i64.wrap ((r:Int)+1)=wi:=by rw[IntKind.wrap_i64];omega
 have hr10:(r:Int)+1=wi:=by omega
 have HWI:=hD hwi;have HRL:=hD hrl;clear hs hA hin hAw hu hl hr4 hwi hwh hway;go_enter Tryz.func8,Tryz.ntmps8
 go_upto_block 0 with (go_at_call 23;(with_reducible refine cB.mono ?_);clear cB;rintro e w1 ⟨d,p,tb,ts,F,rfl,ht,hb,hz⟩;have HST:=hD (LawI.start ht hb);clear ht hb hz)
 generalize hW2:World.alloc w1 _=W2 at *;obtain⟨bl,hbl⟩:∃bl,w1.heap.size=bl:=⟨_,rfl⟩;rw[hbl]at HST ⊢;have HBL:=hD hbl;clear hW2 hbl;obtain⟨L,hL⟩:∃L,X8w (acts.take 20)=L:=⟨_,rfl⟩;have HL:=hD hL
 go_cut [15] (fun _ wx=>∃F,LawI w tb p bl ts L 20 F wx)
 case first=>
  go_wp2_with fail
  go_loopw [15] (fun i wr=>∃(k:Nat) (F:Nat->Prop),k<=acts.length/\k<=20/\i= .int .i64 k/\LawI w tb p bl ts (X8w (acts.take k)) k F wr) (fun i _=>acts.length-(intOf i).toNat)
  case atStart=>exact⟨0,_,by omega,by omega,rfl,HST.out⟩
  case round=>
   obtain⟨k,F2,hk,hk40,rfl,hr⟩:=hrel;have HR:=hD hr;clear hr;by_cases hlt:k<acts.length
   ·have hd:decide ((k:Int)<(acts.length:Int))=true:=by simp;omega
    by_cases h40:k<20
    ·have hd2:decide ((k:Int)<20)=true:=by simp;omega
     have HT:=hD (X8v acts k hlt);have HIK:=hD (HIN.out _ (List.getElem_mem hlt));obtain⟨b,off,rfl,hbl,hx⟩:=HA.out (by omega);obtain⟨cs,rfl,_,hcs⟩:=hx k hlt;have HE:Hid (∀W:World,Ext w W->(W.cell? ⟨b,off+k*12,none⟩=some (.int .i64 acts[k].1)/\W.cell? ⟨b,off+k*12+1,none⟩=some (.int .i64 acts[k].2.id)/\W.cell? ⟨b,off+k*12+2,none⟩=some (.int .i64 acts[k].2.proc)/\W.cell? ⟨b,off+k*12+3,none⟩=some (.int .i64 acts[k].2.object)/\W.cell? ⟨b,off+k*12+4,none⟩=some (.int .i64 acts[k].2.kind)/\W.cell? ⟨b,off+k*12+5,none⟩=some (.int .i64 acts[k].2.method)/\W.cell? ⟨b,off+k*12+6,none⟩=some (.int .i64 acts[k].2.arg)/\W.cell? ⟨b,off+k*12+7,none⟩=some (.int .i64 acts[k].2.second)/\W.cell? ⟨b,off+k*12+8,none⟩=some (.bool acts[k].2.done)/\W.cell? ⟨b,off+k*12+9,none⟩=some (.int .i64 acts[k].2.result)/\W.cell? ⟨b,off+k*12+10,none⟩=some (.int .i64 acts[k].2.invoke)/\W.cell? ⟨b,off+k*12+11,none⟩=some (.int .i64 acts[k].2.ret))):=by intro W h;have hw:=fun j u hu=>(h.cell (p:=⟨b,off+k*12+j,none⟩) hbl).trans (hcs j u hu);exact⟨hw 0 _ rfl,hw 1 _ rfl,hw 2 _ rfl,hw 3 _ rfl,hw 4 _ rfl,hw 5 _ rfl,hw 6 _ rfl,hw 7 _ rfl,hw 8 _ rfl,hw 9 _ rfl,hw 10 _ rfl,hw 11 _ rfl⟩
     clear hx hcs;generalize acts[k]=x at *;obtain⟨kd,o⟩:=x;dsimp only at HE HIK;generalize X8w (acts.take k)=l at *;have hbw:=aE hbl HR.out.ext.size;obtain⟨e0,e1,e2,e3,e4,e5,e6,e7,e8,e9,e10,e11⟩:=HE.out wr HR.out.ext;by_cases hkd:kd<2
     ·have q1:decide (kd<2)=true:=decide_eq_true hkd;have HS:Hid (V5r l (kd,o)=actL kd o l):=if_pos hkd;have cD:=HR.out.act kd o (by omega) HIK.out.1 HIK.out.2 (by omega);unfold actV at cD;clear hkd;go_wp2_with (go_at_call 24;(with_reducible refine cD.mono ?_);clear cD;rintro e w3 ⟨rfl,F3,hl3⟩;have HL3:=hD hl3;clear hl3)
      go_roundw
      case rel=>exact⟨k+1,F3,by omega,by omega,by go_num,by rw[HT.out,HS.out];exact HL3.out⟩
      case measure=>simp[intOf];omega
     ·have q1:decide (kd<2)=false:=decide_eq_false hkd;have HS:Hid (V5r l (kd,o)=l):=if_neg hkd;clear hkd;go_wp2_with fail
      go_roundw
      case rel=>exact⟨k+1,F2,by omega,by omega,by go_num,by rw[HT.out,HS.out];exact HR.out.skip⟩
      case measure=>simp[intOf];omega
    ·obtain rfl:k=20:=by omega
     have hd2:decide (((20:Nat):Int)<20)=false:=by simp
     rw[HL.out]at HR;go_wp2_with fail
     go_meet
     exact⟨F2,HR.out⟩
   ·have hd:decide ((k:Int)<(acts.length:Int))=false:=by simp;omega
    have HF:Hid (∃F,LawI w tb p bl ts L 20 F wr):=by
     refine⟨F2,?_⟩;have e1:acts.take k=acts.take 20:=by rw[List.take_of_length_le (by omega),List.take_of_length_le (by omega)]
     have h1:=HR.out;rw[e1,HL.out]at h1;exact h1.more hk40
    go_wp2_with fail
    go_meet
    exact HF.out
 case rest=>
 obtain⟨F1,hr1⟩:=hcut;obtain⟨P,lA,lc,hPx,hPf,hPok,hP40,cO,cDel,cPut⟩:=hr1.open_ (r+1) (by omega) (by omega) (by omega);rw[HWI.out]at cO cDel cPut;have HPX:=hD hPx;have HPF:=hD hPf;have HPK:=hD hPok;have H40:=hD hP40;have CDEL:=hD cDel;have CPUT:=hD cPut;clear hr1 HST hL hPx hPf hPok hP40 cDel cPut hrl
 go_upto_if 72 with (go_at_call 28;(with_reducible refine cO.mono ?_);clear cO;rintro e w5 ⟨tr,F5,rfl,h5⟩;have HP5:=hD h5;clear h5)
 obtain⟨hF5,hc5,hb5,hs5,hx5⟩:=HPF.out _ _ _ HP5.out;have HX5:=hD hx5;have HS5:=hD hs5;clear hx5 hs5;cases lacks with
 | true=>
   by_cases hL0:L.length=0
   ·have q0:(((L.length:Nat):Int)==0)=true:=by rw[hL0];rfl
    have q1:decide (((L.length:Nat):Int)=0)=true:=aN;clear hL0;go_wp2_with (go_at_call 27;(with_reducible refine(HAW.out _).mono ?_);rintro e w6 ⟨rfl,hx6⟩;have HX6:=hD (HX5.out.trans hx6);clear hx6);go_ret;exact⟨rfl,HX6.out⟩
   ·have q0:(((L.length:Nat):Int)==0)=false:=by simpa using hL0
    have q1:decide (((L.length:Nat):Int)=0)=false:=aM;obtain⟨_,hlc1,hlc2,hLL⟩:=HS5.out.at;obtain⟨lb,lo,rfl,hlb,hlx⟩:=hLL (by omega);obtain⟨wh,rfl⟩:∃n:Nat,which=n:=⟨which.toNat,by have:=HWH.out.1;omega⟩;have hwh:=HWH.out.2;obtain⟨q,hq⟩:∃q,wh%L.length=q:=⟨_,rfl⟩;have hql:q<L.length:=by rw[<-hq];exact Nat.mod_lt _ (by omega)
    obtain⟨o,ho⟩:∃o,L[q]=o:=⟨_,rfl⟩;have hom:o∈L:=by rw[<-ho];exact List.getElem_mem hql
    obtain⟨cs,hc0,_,hcs⟩:=hlx q hql;rw[ho]at hc0;subst hc0;have hno:=H40.out;have hn64:IntKind.u64.wrap (L.length:Int)=(L.length:Int):=by rw[IntKind.wrap_u64];omega
    have hq1:((wh:Int)).tmod (L.length:Int)=(q:Int):=by rw[Int.tmod_eq_emod_of_nonneg (by omega),<-hq];rfl
    have hq2:(wh:Int)%(L.length:Int)=(q:Int):=by rw[<-hq];rfl
    have hq3:IntKind.u64.wrap (q:Int)=(q:Int):=by rw[IntKind.wrap_u64];omega
    have hq4:(0:Int)<=(q:Int):=by omega
    have hq5:(q:Int)<(L.length:Int):=by omega
    have hq6:((q:Int)).toNat=q:=by omega
    have hq7:¬((L.length:Nat):Int)=0:=by omega
    have hq8:¬L= []:=fun e=>by rw[e]at hql;simp at hql
    have HE:Hid (∀W:World,Ext w5 W->(W.cell? ⟨bl,0,none⟩=some (.slice (some ⟨lb,lo,none⟩) L.length lc)/\W.cell? ⟨lb,lo+q*11,none⟩=some (.int .i64 o.id)/\W.cell? ⟨lb,lo+q*11+1,none⟩=some (.int .i64 o.proc)/\W.cell? ⟨lb,lo+q*11+2,none⟩=some (.int .i64 o.object)/\W.cell? ⟨lb,lo+q*11+3,none⟩=some (.int .i64 o.kind)/\W.cell? ⟨lb,lo+q*11+4,none⟩=some (.int .i64 o.method)/\W.cell? ⟨lb,lo+q*11+5,none⟩=some (.int .i64 o.arg)/\W.cell? ⟨lb,lo+q*11+6,none⟩=some (.int .i64 o.second)/\W.cell? ⟨lb,lo+q*11+7,none⟩=some (.bool o.done)/\W.cell? ⟨lb,lo+q*11+8,none⟩=some (.int .i64 o.result)/\W.cell? ⟨lb,lo+q*11+9,none⟩=some (.int .i64 o.invoke)/\W.cell? ⟨lb,lo+q*11+10,none⟩=some (.int .i64 o.ret))):=by intro W h;have hw:=fun j u hu=>(h.cell (p:=⟨lb,lo+q*11+j,none⟩) hlb).trans (hcs j u hu);exact⟨(h.cell (p:=⟨bl,0,none⟩) hb5).trans hc5,hw 0 _ rfl,hw 1 _ rfl,hw 2 _ rfl,hw 3 _ rfl,hw 4 _ rfl,hw 5 _ rfl,hw 6 _ rfl,hw 7 _ rfl,hw 8 _ rfl,hw 9 _ rfl,hw 10 _ rfl⟩
    have HOM:=hD hom;clear hlx hcs hLL hq ho hL0 hom;go_upto_region 17 with fail;refine wp_region_held_drew (S:=fun W=>W.cell? ⟨bl,0,none⟩=some (.slice (some ⟨lb,lo,none⟩) L.length lc)/\W.cell? ⟨lb,lo+q*11,none⟩=some (.int .i64 o.id)/\W.cell? ⟨lb,lo+q*11+1,none⟩=some (.int .i64 o.proc)/\W.cell? ⟨lb,lo+q*11+2,none⟩=some (.int .i64 o.object)/\W.cell? ⟨lb,lo+q*11+3,none⟩=some (.int .i64 o.kind)/\W.cell? ⟨lb,lo+q*11+4,none⟩=some (.int .i64 o.method)/\W.cell? ⟨lb,lo+q*11+5,none⟩=some (.int .i64 o.arg)/\W.cell? ⟨lb,lo+q*11+6,none⟩=some (.int .i64 o.second)/\W.cell? ⟨lb,lo+q*11+7,none⟩=some (.bool o.done)/\W.cell? ⟨lb,lo+q*11+8,none⟩=some (.int .i64 o.result)/\W.cell? ⟨lb,lo+q*11+9,none⟩=some (.int .i64 o.invoke)/\W.cell? ⟨lb,lo+q*11+10,none⟩=some (.int .i64 o.ret)) (by kernel_rfl) (HE.out _ (by exact Xt)) (fun hHeld=> ?_);refine' tk 0 ?_;refine' tk 1 ?_;refine' tk 2 ?_;refine' tk 3 ?_;refine' tk 4 ?_;refine' tk 5 ?_;refine' tk 6 ?_;refine' tk 7 ?_;refine stp 8 (fun K hK=> ?_);go_simp
    skip
    refine hK.out _ _ (HE.out _ (by exact Xt)) (fun hHeld=> ?_);clear hK K;refine pt ?_;refine stp 9 (fun K hK=> ?_);go_simp;generalize hw8:World.drew _=w8;have HZ:Hid (Ext w5 w8/\Row1 w8 w5.heap.size 73 o.cells):=by unfold Hid;rw[<-hw8];exact⟨by exact Xt,(Row1.made w5 _ o.cells).same rfl⟩
    clear hw8;refine hK.out _ _ (HE.out _ HZ.out.1) (fun hHeld=> ?_);clear hK K;refine pt ?_;refine wpAnyH_done (by kernel_rfl) ?_ _;have hwl:wayI wi o=wayL (r+1) o:=by rw[<-HWI.out];exact X3r (by have:=HRL.out;omega) o
    have hin:=(OpIn.of (HPK.out o HOM.out)).way (r+1);have cKy:Hid (∀W,cQ 30 #[.int .i64 wi,.agg #[.int .i64 o.id,.int .i64 o.proc,.int .i64 o.object,.int .i64 o.kind,.int .i64 o.method,.int .i64 o.arg,.int .i64 o.second,.bool o.done,.int .i64 o.result,.int .i64 o.invoke,.int .i64 o.ret]] W fun e w'=>(∃v,e= .returned v/\OwnL w' W.heap.size 3 1 encN v (wayL (r+1) o))/\Ext W w'):=fun W=>by rw[<-hwl];exact Y2f wi o W
    have cOf:Hid (∀W V,OwnL W w5.heap.size 3 1 encN V (wayL (r+1) o)->cQ 29 #[V] W fun e w'=>e= .returned (.tuple #[.string (wayK (r+1) o),.int .i64 0])/\Ext W w'):=fun W V h=>by have h1:=Y3s V (wayL (r+1) o) W (h.sl Z0j (fun _=>rfl)) hin;rw[if_neg (by have:=Z3w (r+1) o;omega)]at h1;exact h1
    have CD:Hid (∀W,Ext w5 W->cQ 31 #[tp tr,.string (wayK (r+1) o)] W fun e w'=>e= .returned (.int .i64 0)/\∃Q F2,Q F2 w'/\TroR tb [(wi,o.id)] Q w/\Keeps F5 F2 W w'):=fun W hW=>CDEL.out tr F5 W o (HPX.out _ _ _ _ HP5.out hW) HOM.out;have HNF:Hid (∀i,F5 i->i<w5.heap.size):=hF5;generalize wayK (r+1) o=ky at cOf CD;obtain⟨b0,b1,b2,b3,b4,b5,b6,b7,b8,b9,b10⟩:=At11.row HZ.out.2;clear hq1 hq2 hq3 hq4 hq5 hq6 hq7 hq8 hwl hin hF5 hc5 hb5 hHeld;go_upto_region 22 with (first
     | (go_at_call 30;(with_reducible refine(cKy.out _).mono ?_);clear cKy;rintro e w9 ⟨⟨v9,rfl,hv9⟩,hb9⟩;obtain⟨A9,c9,rfl⟩:=hv9.form;have HV9:=hD (hv9.lower HZ.out.1.size);have HX9:=hD (HZ.out.1.trans hb9);have HB9:=hD hb9;clear hv9 hb9)
     | (go_at_call 29;(with_reducible refine(cOf.out _ _ HV9.out).mono ?_);clear cOf;rintro e w10 ⟨rfl,hb10⟩;have HX10:=hD (HX9.out.trans hb10);have HB10:=hD (HB9.out.trans hb10);clear hb10)
     | (go_at_call 31;(with_reducible refine(CD.out _ HX10.out).mono ?_);clear CD;rintro e w11 ⟨rfl,Q,F6,hq11,htr11,hk11⟩;have HQ:=hD hq11;have HTR:=hD htr11;have HK11:=hD hk11;clear hq11 htr11 hk11)
     | (go_at_call 32;(with_reducible refine(HTR.out _ _ HQ.out).mono ?_);rintro e w12 ⟨A12,c12,rfl,ho12,hx12,hon12⟩;have HO12:=hD ho12;have HX12:=hD hx12;have HON:=hD hon12;clear ho12 hx12 hon12))
    have HRB:Hid (Row1 w12 w5.heap.size 73 o.cells):=by have r1:Row1 w10 w5.heap.size 73 o.cells:=HZ.out.2.ext HB10.out HZ.out.2.lt;have n1:¬F5 w5.heap.size:=fun q=>absurd (HNF.out _ q) (Nat.lt_irrefl _);have r2:=HK11.out.only.row r1 n1;exact HON.out.row r2 (HK11.out.out r1.lt n1)
    obtain⟨gb,go_,rfl,hgb,hgc,g0,g1⟩:=V9o HO12.out;have HE2:Hid (∀W,Ext w12 W->W.cell? ⟨gb,go_,none⟩=some (.int .i64 wi)/\W.cell? ⟨gb,go_+1,none⟩=some (.int .i64 o.id)/\W.cell? ⟨w5.heap.size,0,none⟩=some (.int .i64 o.id)):=fun W hW=>⟨(hW.cell (p:=⟨gb,go_,none⟩) hgb).trans g0,(hW.cell (p:=⟨gb,go_+1,none⟩) hgb).trans g1,(HRB.out.ext hW HRB.out.lt).cell 0⟩;clear g0 g1;go_upto_region 22 with fail;refine wp_region_held_drew (S:=fun W=>W.cell? ⟨gb,go_,none⟩=some (.int .i64 wi)/\W.cell? ⟨gb,go_+1,none⟩=some (.int .i64 o.id)/\W.cell? ⟨w5.heap.size,0,none⟩=some (.int .i64 o.id)) (by kernel_rfl) (HE2.out _ (by exact Xt)) (fun hHeld=> ?_);refine' tk 0 ?_;refine' tk 1 ?_;refine' tk 2 ?_;refine' tk 3 ?_;refine' tk 4 ?_;refine' tk 5 ?_;refine' tk 6 ?_;refine' tk 7 ?_;refine' tk 8 ?_;refine' tk 9 ?_;refine' tk 10 ?_;refine' tk 11 ?_;refine' tk 12 ?_;refine' tk 13 ?_;refine stp 14 (fun K hK=> ?_);go_simp
    (with_reducible refine(HAW.out _).mono ?_)
    rintro e w13 ⟨rfl,hb13⟩;have HB13:Hid (Ext w12 w13):=Ext.trans (by exact Xt) hb13;clear hb13
    (try dsimp only)
    (try go_simp)
    refine hK.out _ _ (HE2.out _ HB13.out) (fun hHeld=> ?_);clear hK K;refine pt ?_;refine' tk 15 ?_;refine' tk 16 ?_;refine wpAnyH_done (by kernel_rfl) ?_ _;go_wp2_with fail;go_ret;exact⟨rfl,HX12.out.trans HB13.out⟩
 | false=>
   have cOf:=Y3s (.slice B fl.length d0) fl w5 (HU.out.ext HX5.out) HFL.out;by_cases h4:4<fl.length
   ·rw[if_pos h4]at cOf;clear h4;go_wp2_with (first
     | (go_at_call 29;(with_reducible refine cOf.mono ?_);clear cOf;rintro e w6 ⟨rfl,hb6⟩;have HX6:=hD (HX5.out.trans hb6);clear hb6)
     | (go_at_call 27;(with_reducible refine(HAW.out _).mono ?_);rintro e w7 ⟨rfl,hx7⟩;have HX7:=hD (HX6.out.trans hx7);clear hx7))
    go_ret;exact⟨rfl,HX7.out⟩
   ·rw[if_neg h4]at cOf;by_cases h0:fl= []
    ·have hk0:bts (keyL fl)=⟨#[]⟩:=by rw[h0];rfl
     rw[hk0]at cOf;clear h0 h4 hk0;go_wp2_with (first
      | (go_at_call 29;(with_reducible refine cOf.mono ?_);clear cOf;rintro e w6 ⟨rfl,hb6⟩;have HX6:=hD (HX5.out.trans hb6);clear hb6)
      | (go_at_call 27;(with_reducible refine(HAW.out _).mono ?_);rintro e w7 ⟨rfl,hx7⟩;have HX7:=hD (HX6.out.trans hx7);clear hx7))
     go_ret;exact⟨rfl,HX7.out⟩
    ·have hfl:0<fl.length:=List.length_pos_iff.2 h0;have hksz:(bts (keyL fl)).size=8*fl.length:=by rw[Z0e,Z2r]
     have HKO:Hid (Z2o (bts (keyL fl))):=⟨by omega,by omega⟩;have hkn:¬(bts (keyL fl)).toList= []:=Y9r (by omega);have hkn2:(bts (keyL fl)).toList.isEmpty=false:=by
      cases e:(bts (keyL fl)).toList with
      | nil=>exact absurd e hkn
      | cons _ _=>rfl
     have HNK:Hid (∀o∈L,wayL (r+1) o≠fl->wayK (r+1) o≠bts (keyL fl)):=fun o ho hne e=>hne (X5c ((OpIn.of (HPK.out o ho)).way (r+1)) HFL.out e);obtain⟨ky,hky⟩:∃ky,bts (keyL fl)=ky:=⟨_,rfl⟩;rw[hky]at cOf hkn hkn2 HNK HKO;obtain⟨_,hlc1,hlc2,hLL⟩:=HS5.out.at;have HLL:=hD hLL;have HB5:Hid (∀W,Ext w5 W->W.cell? ⟨bl,0,none⟩=some (.slice lA L.length lc)):=fun W h=>(h.cell (p:=⟨bl,0,none⟩) hb5).trans hc5;have HNF:Hid (∀i,F5 i->i<w5.heap.size):=hF5;clear h0 h4 hky hksz hLL hF5 hc5 hb5;go_wp2_with (go_at_call 29;(with_reducible refine cOf.mono ?_);clear cOf;rintro e w6 ⟨rfl,hb6⟩;have HX6:=hD hb6;have z6:=HB5.out _ hb6;clear hb6);clear z6
     go_loopw [25] (fun i wr=>∃k:Nat,k<=L.length/\i= .int .i64 k/\(∀j (h:j<L.length),j<k->wayL (r+1) L[j]≠fl)/\Ext w5 wr) (fun i _=>L.length-(intOf i).toNat)
     case atStart=>exact⟨0,by omega,rfl,fun j h q=>absurd q (by omega),HX6.out⟩
     case round=>
      obtain⟨k,hk,rfl,hno,hxr⟩:=hrel;have HXR:=hD hxr;have z0:=HB5.out _ hxr;clear hxr;by_cases hlt:k<L.length
      ·have hd:decide ((k:Int)<(L.length:Int))=true:=aN;obtain⟨lb,lo,rfl,hlb,hlx⟩:=HLL.out (by omega);obtain⟨cs,hc0,_,hcs⟩:=hlx k hlt;obtain⟨o,ho⟩:∃o,L[k]=o:=⟨_,rfl⟩;have hom:o∈L:=by rw[<-ho];exact List.getElem_mem hlt
       rw[ho]at hc0;subst hc0;have hw:=fun j u hu=>(HXR.out.cell (p:=⟨lb,lo+k*11+j,none⟩) hlb).trans (hcs j u hu);obtain⟨e0,e1,e2,e3,e4,e5,e6,e7,e8,e9,e10⟩:wr.cell? ⟨lb,lo+k*11,none⟩=some (.int .i64 o.id)/\wr.cell? ⟨lb,lo+k*11+1,none⟩=some (.int .i64 o.proc)/\wr.cell? ⟨lb,lo+k*11+2,none⟩=some (.int .i64 o.object)/\wr.cell? ⟨lb,lo+k*11+3,none⟩=some (.int .i64 o.kind)/\wr.cell? ⟨lb,lo+k*11+4,none⟩=some (.int .i64 o.method)/\wr.cell? ⟨lb,lo+k*11+5,none⟩=some (.int .i64 o.arg)/\wr.cell? ⟨lb,lo+k*11+6,none⟩=some (.int .i64 o.second)/\wr.cell? ⟨lb,lo+k*11+7,none⟩=some (.bool o.done)/\wr.cell? ⟨lb,lo+k*11+8,none⟩=some (.int .i64 o.result)/\wr.cell? ⟨lb,lo+k*11+9,none⟩=some (.int .i64 o.invoke)/\wr.cell? ⟨lb,lo+k*11+10,none⟩=some (.int .i64 o.ret):=⟨hw 0 _ rfl,hw 1 _ rfl,hw 2 _ rfl,hw 3 _ rfl,hw 4 _ rfl,hw 5 _ rfl,hw 6 _ rfl,hw 7 _ rfl,hw 8 _ rfl,hw 9 _ rfl,hw 10 _ rfl⟩;have hwl:wayI wi o=wayL (r+1) o:=by rw[<-HWI.out];exact X3r (by have:=HRL.out;omega) o
       have cKy:Hid (∀W,cQ 30 #[.int .i64 wi,.agg #[.int .i64 o.id,.int .i64 o.proc,.int .i64 o.object,.int .i64 o.kind,.int .i64 o.method,.int .i64 o.arg,.int .i64 o.second,.bool o.done,.int .i64 o.result,.int .i64 o.invoke,.int .i64 o.ret]] W fun e w'=>(∃v,e= .returned v/\OwnL w' W.heap.size 3 1 encN v (wayL (r+1) o))/\Ext W w'):=fun W=>by rw[<-hwl];exact Y2f wi o W
       obtain⟨b,hb⟩:∃b,(!ltI (wayL (r+1) o) fl&& !ltI fl (wayL (r+1) o))=b:=⟨_,rfl⟩;have cI:Hid (∀W V,Ext w5 W->OwnL W wr.heap.size 3 1 encN V (wayL (r+1) o)->cQ 33 #[V,.slice B fl.length d0] W fun e w'=>e= .returned (.bool b)/\Ext W w'):=fun W V hW h=>by rw[<-hb];exact Y7z V (.slice B fl.length d0) (wayL (r+1) o) fl W (h.sl Z0j (fun _=>rfl)) (HU.out.ext (HX5.out.trans hW))
       have HNE:Hid (b=false->wayL (r+1) o≠fl):=fun q e=>by rw[<-hb,e,V7i]at q;cases q
       have HNO:Hid (∀j (h:j<L.length),j<k->wayL (r+1) L[j]≠fl):=hno;have HLK:Hid (L[k]=o):=ho;clear hw hcs hlx hwl hb hno ho hom;cases b with
       | true=>
         go_wp2_with (first
          | (go_at_call 30;(with_reducible refine(cKy.out _).mono ?_);clear cKy;rintro e w9 ⟨⟨v9,rfl,hv9⟩,hb9⟩;obtain⟨A9,c9,rfl⟩:=hv9.form;have HV9:=hD hv9;have HX9:=hD (HXR.out.trans hb9);clear hv9 hb9)
          | (go_at_call 33;(with_reducible refine(cI.out _ _ HX9.out HV9.out).mono ?_);clear cI;rintro e w10 ⟨rfl,hb10⟩;have HX10:=hD (HX9.out.trans hb10);clear hb10)
          | (go_at_call 27;(with_reducible refine(HAW.out _).mono ?_);rintro e w7 ⟨rfl,hx7⟩;have HX7:=hD ((HX5.out.trans HX10.out).trans hx7);clear hx7))
         go_ret;exact⟨rfl,HX7.out⟩
       | false=>
         go_wp2_with (first
          | (go_at_call 30;(with_reducible refine(cKy.out _).mono ?_);clear cKy;rintro e w9 ⟨⟨v9,rfl,hv9⟩,hb9⟩;obtain⟨A9,c9,rfl⟩:=hv9.form;have HV9:=hD hv9;have HX9:=hD (HXR.out.trans hb9);clear hv9 hb9)
          | (go_at_call 33;(with_reducible refine(cI.out _ _ HX9.out HV9.out).mono ?_);clear cI;rintro e w10 ⟨rfl,hb10⟩;have HX10:=hD (HX9.out.trans hb10);clear hb10))
         go_roundw
         case rel=>
          refine⟨k+1,by omega,by go_num,fun j h q=> ?_,HX10.out⟩;by_cases e:j=k
          ·subst e;rw[HLK.out];exact HNE.out (by first | rfl | trivial)
          ·exact HNO.out j h (by omega)
         case measure=>simp[intOf];omega
      ·obtain rfl:k=L.length:=by omega
       have hd:decide ((L.length:Int)<(L.length:Int))=false:=by simp
       have CP:Hid (∀W,Ext w5 W->cQ 34 #[tp tr,.string ky,.string ⟨#[]⟩] W fun e w'=>e= .returned (.int .i64 0)/\∃Q F2,Q F2 w'/\TroR tb [(wi,0)] Q w/\Keeps F5 F2 W w'):=fun W hW=>CPUT.out tr F5 W ky (HPX.out _ _ _ _ HP5.out hW) HKO.out (fun o ho=>by
        obtain⟨j,hj,rfl⟩:=List.mem_iff_getElem.1 ho;exact HNK.out _ ho (hno j hj hj))
       clear hno hk;go_wp2_with (first
        | (go_at_call 34;(with_reducible refine(CP.out _ HXR.out).mono ?_);clear CP;rintro e w11 ⟨rfl,Q,F6,hq11,htr11,hk11⟩;have HQ:=hD hq11;have HTR:=hD htr11;clear hq11 htr11 hk11)
        | (go_at_call 32;(with_reducible refine(HTR.out _ _ HQ.out).mono ?_);rintro e w12 ⟨A12,c12,rfl,ho12,hx12,hon12⟩;obtain⟨gb,go_,rfl,hgb,hgc,g0,g1⟩:=V9o ho12;have HX12:=hD hx12;clear ho12 hx12 hon12)
        | (go_at_call 27;(with_reducible refine(HAW.out _).mono ?_);rintro e w7 ⟨rfl,hx7⟩;have HX7:=hD (HX12.out.trans hx7);clear hx7))
       go_ret;exact⟨rfl,HX7.out⟩
end Go.Proofs.YtohaldfnmgcofaaGreat
