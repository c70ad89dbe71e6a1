/- Put into any tree. Conditions: pages that bear a tree; room for what may be cut. -/
import Derived.Test.YtohaldfnmgcofaaGreatW29
import Derived.Test.YtohaldfnmgcofaaGreatW27
set_option maxRecDepth 100000
set_option maxHeartbeats 4000000
set_option linter.unusedSimpArgs false
set_option linter.unusedVariables false
namespace Go.Proofs.YtohaldfnmgcofaaGreat
open Go.RowKit
theorem X3q{S:StoreD}:∀(d:Nat) (t:TT d),onT S d t->okT d t->V8t S d (atT d t)
 | 0,t,h,_=>⟨_,h,rfl⟩
 | d+1,t,h,hok=>by
   refine⟨_,h.1,rfl,?_⟩;have hl:0<(InT.kids t).length:=by have:=hok.2.1;omega
   have e:((Z0c (d+1) t).kids[0]?.getD 0)=(atT d (InT.kids t)[0]:Int):=by show(((InT.kids t).map fun c=>(atT d c:Int))[0]?).getD 0=_;rw[List.getElem?_map,aB hl];rfl
   rw[e,Int.toNat_natCast];exact X3q d _ (h.2 _ (List.getElem_mem hl)) (hok.2.2.2.1 _ (List.getElem_mem hl))
def Z8s(mid:ByteArray)(a r:Nat):NodeD:=⟨false,[mid],[],[(a:Int),(r:Int)]⟩
theorem V6m(w:World)(mid:ByteArray)(a r:Nat):NodeAs ((w.alloc (.cells #[.string mid] 9)).alloc (.cells #[.int .i64 a,.int .i64 r] 3)) (fun i=>w.heap.size<=i) (Z8s mid a r) (.slice (some ⟨w.heap.size,0,none⟩) 1 1) (.slice none 0 0) (.slice (some ⟨w.heap.size+1,0,none⟩) 2 2):=by
 have h1:Row1 ((w.alloc (.cells #[.string mid] 9)).alloc (.cells #[.int .i64 a,.int .i64 r] 3)) w.heap.size 9 (([mid].flatMap encS)++ []):=Row1.alloc (Row1.made w _ [.string mid]) _;have h2:Row1 ((w.alloc (.cells #[.string mid] 9)).alloc (.cells #[.int .i64 a,.int .i64 r] 3)) (w.heap.size+1) 3 (([(a:Int),(r:Int)].flatMap encN)++ []):=Row1.made' (by simp) _ [.int .i64 a,.int .i64 r];refine⟨OwnL.ofRow (k:=1) h1 (Nat.zero_le _) (aF 1) (by decide) rfl Z0d,OwnL.nil _ _ _ _ _,OwnL.ofRow (k:=1) h2 (Nat.zero_le _) (aF 2) (by decide) rfl Z0i,fun b q q'=>(by cases q'),fun b q=> ?_,fun b q=> ?_,fun b q=> ?_⟩
 ·have e1:w.heap.size=b:=Option.some.inj q;omega
 ·cases q
 ·have e2:w.heap.size+1=b:=Option.some.inj q;omega
theorem V6l{mid:ByteArray}{a r:Nat}(hm:mid.size<=32)(ha:a<65536)(hr:r<65536):NodeOk (Z8s mid a r)/\Z0m (Z8s mid a r)<=256:=by
 refine⟨⟨fun x hx=> ?_,fun x hx=>by simp[Z8s]at hx,fun c hc=> ?_,by simp[Z8s],(fun q=>by cases q),fun _=>⟨rfl,rfl⟩⟩,by simp[Z0m,Z0n,Z8s];omega⟩
 ·simp only[Z8s,List.mem_singleton]at hx;subst hx;omega
 ·simp only[Z8s,List.mem_cons,List.not_mem_nil,or_false]at hc;rcases hc with rfl | rfl<;>exact⟨by omega,by omega⟩
theorem V4w{tr p i d:Nat}{F:Nat->Prop}{S:StoreD}(t:TT d)(k v:ByteArray)(w:World)(ht:Z0b w tr p i)(hnt:¬F tr)(h:PagerAt w p F S)(hi:i<16)(hf:Fm S)(hroot:Z1x S i=atT d t)(hon:onT S d t)(hok:okT d t)(hnd:(Z0a d t).Nodup)(hk:Z3a k)(hv:v.size<=80)(hroom:d+2<=Z0x S)(hd:d<32):
  Calls Tryz.prog 34 #[.pointer (some ⟨tr,0,none⟩),.string k,.string v] w fun e w'=>e= .returned (.int .i64 0)/\∃S' T',Y1x S i k v S' T' (.yes d t)/\∃F',PagerAt w' p F' S'/\Keeps F F' w w':=by
 have cR:=Z4c w ht hnt h hi;rw[hroot]at cR;have ha:2<=atT d t:=(Z0k d t hon _ (Z0q d t)).1;have HRO:Hid (∀W F1,Z0b W tr p i->¬F1 tr->PagerAt W p F1 S->Calls Tryz.prog 93 #[.pointer (some ⟨tr,0,none⟩),.int .i64 (atT d t)] W fun e w'=>e= .returned (.int .i64 0)/\∃F',PagerAt w' p F' S/\Keeps F1 F' W w'):=fun W F1 q1 q2 q3=>by have q:=V5k (atT d t) d W q1 q2 q3 (X3q d t hon hok) hd;rw[V9u,if_neg (by omega)]at q;exact q
 have HPU:Hid (∀W F1,Z0b W tr p i->¬F1 tr->PagerAt W p F1 S->Calls Tryz.prog 94 #[.pointer (some ⟨tr,0,none⟩),.int .i64 (atT d t),.int .i64 32,.string k,.string v] W (Z9f d p F1 S t k v W)):=fun W F1 q1 q2 q3=>
  V5s k v hk hv d 32 t W q1 q2 q3 hf hon hok (by omega) hnd hd (by decide)
 have HSOME:Hid (∀S1 t' mid r,PutR d S t k v S1 t' (some (mid,r))->∃top,lowS S1=some top/\atT d t'=atT d t/\2<=atT d r/\Z0r (Z1f S1 top) top/\Z0r (layP (Z1f S1 top) top (Z8s mid (atT d t) (atT d r))) top/\NodeOk (Z8s mid (atT d t) (atT d r))/\Z0m (Z8s mid (atT d t) (atT d r))<=256):=fun S1 t' mid r q=>by obtain⟨F1,hl⟩:=Z5i d q hf hon hok hk hv hnd;have hf1:=hf.stp hl.stp (fun b q=>by cases q);have hro:=X3v hl.stp hl.nd (fun b hb=>⟨(hl.fresh b hb).1,(hl.fresh b hb).2.2⟩);have hlen:=hl.len;obtain⟨top,htop⟩:=Y8d hf1 (by omega);obtain⟨r1,r2,r3⟩:=Z4y htop;have hm1:=hf1.most;have hR:=hl.right mid r rfl;have gr:=Z0k d r hR.on _ (Z0q d r);have ga:=Z0k d t' hl.on _ (Z0q d t');rw[hl.at_]at ga;have hmk:=(Y8g hok hk mid hR.key).2;obtain⟨n1,n2⟩:=V6l (a:=atT d t) (r:=atT d r) hmk (by have:=ga.2.1;omega) (by have:=gr.2.1;omega);have t1:=Z6z hf1.full r1 (by omega:top<2048);have g1:Z0r (Z1f S1 top) top:=t1.givenF r1 r2 (by simp) (by simp);exact⟨top,htop,hl.at_,gr.1,g1,(Z5m t1.full r1 n1 n2).given g1 (by simp),n1,n2⟩
 have HNONE:Hid (∀S1 t',PutR d S t k v S1 t' none->Y1x S i k v S1 (.yes d t') (.yes d t)):=fun S1 t' q=>⟨S1,t',none,q,rfl,rfl⟩;have HYES:Hid (∀S1 t' mid r top,PutR d S t k v S1 t' (some (mid,r))->lowS S1=some top->atT d t'=atT d t->Y1x S i k v (Z0p (layP (Z1f S1 top) top (Z8s mid (atT d t) (atT d r))) i top) (.yes (d+1) (InT.mk top [mid] [t',r])) (.yes d t)):=fun S1 t' mid r top q1 q2 q3=>by refine⟨S1,t',some (mid,r),q1,top,q2,?_,rfl⟩;rw[q3];rfl
 have hkk:¬k.toList= []:=X3o hk.1;have hke:k.toList.isEmpty=false:=by cases h9:k.toList with | nil=>exact absurd h9 hkk | cons _ _=>rfl
 have hk2:=hk.2;have hkd:decide ((32:Int)<(k.size:Int))=false:=aM;have hvd:decide ((80:Int)<(v.size:Int))=false:=aM;have hkd':decide ((32:Nat)<k.size)=false:=aM;have hvd':decide ((80:Nat)<v.size)=false:=aM;obtain⟨a,hat⟩:∃a,atT d t=a:=⟨_,rfl⟩;rw[hat]at cR ha HRO HPU HSOME HYES;have ha0:decide ((a:Int)=0)=false:=aM;have ha1:((a:Int)==0)=false:=by simp;omega
 have HT:=hD ht;have HNT:=hD hnt;have HTL:=hD ht.lt;have HI:=hD hi;clear ht hnt h hroot hk hv hi hd hroom hf hon hok hnd hat hk2;go_enter Tryz.func34,Tryz.ntmps34;go_upto_region 20 with (first
  | (go_at_call 78;(with_reducible refine cR.mono ?_);clear cR;rintro e w1 ⟨rfl,F1,hp1,hk1⟩
     have hr1:Z0b w1 tr p i:=hk1.only.row HT.out HNT.out;have hn1:¬F1 tr:=hk1.out HTL.out HNT.out;have cO:=HRO.out w1 F1 hr1 hn1 hp1;have HR1:=hD hr1;have HN1:=hD hn1;have HK1:=hD hk1;clear hp1 hk1 hr1 hn1)
  | (go_at_call 93;(with_reducible refine cO.mono ?_);clear cO;rintro e w2 ⟨rfl,F2,hp2,hk2⟩
     have hr2:Z0b w2 tr p i:=hk2.only.row HR1.out HN1.out;have hn2:¬F2 tr:=hk2.out HR1.out.lt HN1.out;have cP:=HPU.out w2 F2 hr2 hn2 hp2;have HR2:=hD hr2;have HN2:=hD hn2;have HK2:Hid (Keeps F F2 w w2):=Keeps.trans HK1.out hk2;clear hp2 hk2 hr2 hn2)
  | (go_at_call 94;(with_reducible refine cP.mono ?_);clear cP;rintro e w3 ⟨S1,t',o,rfl,hput,F3,hp3,hk3⟩
     have HPUT:=hD hput;have HP3:=hD hp3;have HK3:Hid (Keeps F F3 w w3):=Keeps.trans HK2.out hk3;have HR3:Hid (Z0b w3 tr p i):=hk3.only.row HR2.out HN2.out;have HN3:Hid (¬F3 tr):=hk3.out HR2.out.lt HN2.out;clear hput hp3 hk3))
 cases o with
 | none=>
   have m0:midO d (none:Option (ByteArray×TT d))=⟨#[]⟩:=rfl;have r0:Y3n d (none:Option (ByteArray×TT d))=0:=rfl;rw[m0,r0];go_wp2_with fail;go_ret;exact⟨rfl,S1,_,HNONE.out _ _ HPUT.out,F3,HP3.out,HK3.out⟩
 | some x=>
   obtain⟨mid,r⟩:=x;have m0:midO d (some (mid,r))=mid:=rfl;have r0:Y3n d (some (mid,r))=atT d r:=rfl;rw[m0,r0];obtain⟨top,htop,hta,hr2,hg1,hg2,hn1,hn2⟩:=HSOME.out _ _ _ _ HPUT.out;have HFIN:=hD (HYES.out _ _ _ _ _ HPUT.out htop hta);obtain⟨ar,har⟩:∃ar,atT d r=ar:=⟨_,rfl⟩;rw[har]at hr2 hg2 hn1 hn2 HFIN ⊢;have T5:((ar:Int)==0)=false:=by simp;omega
   have T6:decide ((ar:Int)=0)=false:=aM;have cA:=Y1e top w3 HP3.out htop;have x0:w3.cell? ⟨tr,0,none⟩=some (.pointer (some ⟨p,0,none⟩)):=HR3.out.cell 0;have HGV:=hD hg2;have HLAY:Hid (∀W F2,Z0b W tr p i->¬F2 tr->PagerAt W p F2 (Z1f S1 top)->Calls Tryz.prog 92 #[.pointer (some ⟨tr,0,none⟩),.int .i64 top,.agg #[.bool false,.slice (some ⟨W.heap.size,0,none⟩) 1 1,.slice none 0 0,.slice (some ⟨W.heap.size+1,0,none⟩) 2 2]] ((W.alloc (.cells #[.string mid] 9)).alloc (.cells #[.int .i64 a,.int .i64 ar] 3)) fun e w'=>e= .returned (.int .i64 0)/\∃F',PagerAt w' p F' (layP (Z1f S1 top) top (Z8s mid a ar))/\Keeps F2 F' ((W.alloc (.cells #[.string mid] 9)).alloc (.cells #[.int .i64 a,.int .i64 ar] 3)) w'):=fun W F2 q1 q2 q3=>
    Y1j top (Z8s mid a ar) _ (Row1.alloc (Row1.alloc q1 _) _) q2 (q3.ext (Ext.trans (Ext.alloc _ _) (Ext.alloc _ _))) hg1 hn1 hn2 (V6m W mid a ar)
   clear htop hta hr2 hg1 hg2 hn1 hn2 har m0 r0;go_upto_region 28 with (first
    | (go_at_call 91;(with_reducible refine cA.mono ?_);clear cA;rintro e w4 ⟨rfl,F4,hp4,hk4⟩
       have hr4:Z0b w4 tr p i:=hk4.only.row HR3.out HN3.out;have hn4:¬F4 tr:=hk4.out HR3.out.lt HN3.out;have HR4:=hD hr4;have HN4:=hD hn4;have HP4:=hD hp4;have HK4:Hid (Keeps F F4 w w4):=Keeps.trans HK3.out hk4;clear hp4 hk4 hr4 hn4)
    | (go_at_call 92;(with_reducible refine(HLAY.out w4 F4 HR4.out HN4.out HP4.out).mono ?_);clear HLAY;rintro e w5 ⟨rfl,F5,hp5,hk5⟩
       have hx:Ext w4 ((w4.alloc (.cells #[.string mid] 9)).alloc (.cells #[.int .i64 a,.int .i64 ar] 3)):=Ext.trans (Ext.alloc _ _) (Ext.alloc _ _);have hk45:Keeps F4 F5 w4 w5:=Keeps.trans (Keeps.of hx) hk5;have hr5:Z0b w5 tr p i:=hk45.only.row HR4.out HN4.out;have HR5:=hD hr5;have HN5:Hid (¬F5 tr):=hk45.out HR4.out.lt HN4.out;have HP5:=hD hp5;have HK5:Hid (Keeps F F5 w w5):=Keeps.trans HK4.out hk45;clear hx hk45 hr5 hp5 hk5))
   have HC:Hid (∀W,Ext w5 W->W.cell? ⟨tr,0,none⟩=some (.pointer (some ⟨p,0,none⟩))/\W.cell? ⟨tr,1,none⟩=some (.int .i64 i)):=fun W hW=>⟨(HR5.out.ext hW HR5.out.lt).cell 0,(HR5.out.ext hW HR5.out.lt).cell 1⟩;have cT:Hid (∀W,Ext w5 W->Calls Tryz.prog 83 #[.pointer (some ⟨p,0,none⟩),.int .i64 i,.int .i64 top] W fun e w'=>e= .returned (.int .i64 0)/\∃F',PagerAt w' p F' (Z0p (layP (Z1f S1 top) top (Z8s mid a ar)) i top)/\Keeps F5 F' W w'):=fun W hW=>Z6f i top W (HP5.out.ext hW) HI.out (.inr HGV.out);refine wp_region_held_drew (S:=fun W=>W.cell? ⟨tr,0,none⟩=some (.pointer (some ⟨p,0,none⟩))/\W.cell? ⟨tr,1,none⟩=some (.int .i64 i)) (by kernel_rfl) (HC.out _ (by exact Xt)) (fun hHeld=> ?_);refine' tk 0 ?_;refine' tk 1 ?_;refine' tk 2 ?_;refine' tk 3 ?_;refine' tk 4 ?_;refine' tk 5 ?_;refine' tk 6 ?_;refine' tk 7 ?_;refine' tk 8 ?_;refine stp 9 (fun K hK=> ?_);go_simp
   (with_reducible refine(cT.out _ ?_).mono ?_)
   ·exact Xt
   rintro e w6 ⟨rfl,F6,hp6,hk6⟩;have hk56:Keeps F5 F6 w5 w6:=Keeps.trans (Keeps.of (by exact Xt)) hk6;have hr6:Z0b w6 tr p i:=hk56.only.row HR5.out HN5.out;have HC9:Hid (w6.cell? ⟨tr,0,none⟩=some (.pointer (some ⟨p,0,none⟩))/\w6.cell? ⟨tr,1,none⟩=some (.int .i64 i)):=⟨hr6.cell 0,hr6.cell 1⟩;have HP6:=hD hp6;have HK6:Hid (Keeps F F6 w w6):=Keeps.trans HK5.out hk56;clear hp6 hk6 hk56 hr6
   (try dsimp only)
   (try go_simp)
   refine hK.out _ _ (HC9.out) (fun hHeld=> ?_);clear hK K;refine pt ?_;refine' tk 10 ?_;refine wpAnyH_done (by kernel_rfl) ?_ _;go_wp2_with fail;go_ret;exact⟨rfl,_,_,HFIN.out,F6,HP6.out,HK6.out⟩
theorem X3l{tr p i:Nat}{F:Nat->Prop}{S:StoreD}(T:TrD)(k v:ByteArray)(w:World)(ht:Z0b w tr p i)(hnt:¬F tr)(h:PagerAt w p F S)(hi:i<16)(hf:Fm S)(hT:TrS S i T)(hk:Z3a k)(hv:v.size<=80)(hroom:T.need<=Z0x S)(hd:T.fine):
  Calls Tryz.prog 34 #[.pointer (some ⟨tr,0,none⟩),.string k,.string v] w fun e w'=>e= .returned (.int .i64 0)/\∃S' T',Y1x S i k v S' T' T/\∃F',PagerAt w' p F' S'/\Keeps F F' w w':=by
 cases T with
 | no=>
   obtain⟨a,ha⟩:=Y8d hf (by have:TrD.need .no=1:=rfl;omega);refine(V5p a k v w ht hnt h hi hT ha hk.1 hk.2 hv).mono ?_;rintro e w' ⟨rfl,q⟩;exact⟨rfl,_,_,⟨a,ha,rfl,rfl⟩,q⟩
 | yes d t=>exact V4w t k v w ht hnt h hi hf hT.1 hT.2.1 hT.2.2.1 hT.2.2.2 hk hv hroom (by have:d<31:=hd;omega)
theorem V0d(ts:Nat->Nat)(w:World):Sem.run Tryz.prog (Instr.index 172 (.agg #[tp (ts 0),tp (ts 1),tp (ts 2),tp (ts 3),tp (ts 4)]) (.int .i64 0)) w= .ok (tp (ts 0)) w:=by kernel_rfl
theorem V0c(ts:Nat->Nat)(w:World):Sem.run Tryz.prog (Instr.index 172 (.agg #[tp (ts 0),tp (ts 1),tp (ts 2),tp (ts 3),tp (ts 4)]) (.int .i64 1)) w= .ok (tp (ts 1)) w:=by kernel_rfl
theorem V0b(ts:Nat->Nat)(w:World):Sem.run Tryz.prog (Instr.index 172 (.agg #[tp (ts 0),tp (ts 1),tp (ts 2),tp (ts 3),tp (ts 4)]) (.int .i64 2)) w= .ok (tp (ts 2)) w:=by kernel_rfl
theorem V0a(ts:Nat->Nat)(w:World):Sem.run Tryz.prog (Instr.index 172 (.agg #[tp (ts 0),tp (ts 1),tp (ts 2),tp (ts 3),tp (ts 4)]) (.int .i64 3)) w= .ok (tp (ts 3)) w:=by kernel_rfl
theorem X9z(ts:Nat->Nat)(w:World):Sem.run Tryz.prog (Instr.index 172 (.agg #[tp (ts 0),tp (ts 1),tp (ts 2),tp (ts 3),tp (ts 4)]) (.int .i64 4)) w= .ok (tp (ts 4)) w:=by kernel_rfl
theorem X9k{tb p:Nat}{ts:Nat->Nat}{F:Nat->Prop}{S0 S:StoreD}{Ts0:Nat->TrD}{L:Nat->List OpD}(o:OpD)(w:World)(ht:TblAt w tb p ts F)(hp:PagerAt w p F S0)(ho:Z1s o=0)
 (hdel:∀(W:World) (F1:Nat->Prop),TblAt W tb p ts F1->PagerAt W p F1 S0->Calls Tryz.prog 71 #[.pointer (some ⟨tb,0,none⟩),.int .i64 o.id] W fun e w'=>∃ev,(ev=0\/ev=6)/\e= .returned (.int .i64 ev)/\∃F',TblAt w' tb p ts F'/\PagerAt w' p F' S/\Keeps F1 F' W w')
 (hT:Tab S Ts0 L)(hno:∀i,i<5->∀x∈L i,x.id≠o.id)(hd:∀i,i<5->depT (Ts0 i)<=31)(hroom:Z4x Ts0 5<=Z0x S):
  Calls Tryz.prog 69 #[.pointer (some ⟨tb,0,none⟩),o.val] w fun e w'=>e= .returned (.int .i64 0)/\∃S' Ts' F',PutK tb p ts Ts0 L o (Z0x S) F w 5 w' S' Ts' F':=by
 have hin:=OpIn.of ho;have HOK:=hD ho;obtain⟨W0,hW0⟩:∃W0,w.alloc (.cells #[.int .i64 o.id,.int .i64 o.proc,.int .i64 o.object,.int .i64 o.kind,.int .i64 o.method,.int .i64 o.arg,.int .i64 o.second,.bool o.done,.int .i64 o.result,.int .i64 o.invoke,.int .i64 o.ret] 73)=W0:=⟨_,rfl⟩;have HX0:Hid (Ext w W0):=by unfold Hid;rw[<-hW0];exact Ext.alloc _ _
 have HR0:Hid (Row1 W0 w.heap.size 73 o.cells):=by unfold Hid;rw[<-hW0];exact Row1.made w _ _
 have HT0:Hid (TblAt W0 tb p ts (fun i=>F i/\i<w.heap.size)):=TblAt.ext (F:=fun i=>F i/\i<w.heap.size) ⟨ht.row,ht.tree,fun q=>ht.out q.1,fun j hj q=>ht.outs j hj q.1⟩ HX0.out;have HP0:Hid (PagerAt W0 p (fun i=>F i/\i<w.heap.size) S0):=PagerAt.ext (F:=fun i=>F i/\i<w.heap.size) hp.shrink HX0.out;have HWID:Hid (∀(F':Nat->Prop) (w':World),Keeps (fun i=>F i/\i<w.heap.size) F' W0 w'->Keeps F F' w w'):=fun F' w' h=>((Keeps.of HX0.out).trans h).widen (fun i q=>q.1);have HLT:Hid (¬(fun i=>F i/\i<w.heap.size) w.heap.size):=fun q=>absurd q.2 (Nat.lt_irrefl _);generalize (fun i=>F i/\i<w.heap.size)=F0 at *;have HRES:=hin.result;have cE:Hid (∀W,Calls Tryz.prog 131 #[.agg #[.int .i64 o.id,.int .i64 o.proc,.int .i64 o.object,.int .i64 o.kind,.int .i64 o.method,.int .i64 o.arg,.int .i64 o.second,.bool o.done,.int .i64 o.result,.int .i64 o.invoke,.int .i64 o.ret]] W fun e w'=>e= .returned (.tuple #[.string (bts (opL o)),.int .i64 0])/\Ext W w'):=fun W=>by have h1:=Z7f o W (by omega);rw[ho,if_pos rfl]at h1;exact h1
 have cM:Hid (∀W,Ext W0 W->Calls Tryz.prog 85 #[.pointer (some ⟨tb,0,none⟩)] W fun e w'=>e= .returned (.bool true)/\W=w'):=fun W hW=>Z2f W (HT0.out.ext hW).row;have cD:Hid (∀W,Ext W0 W->Calls Tryz.prog 71 #[.pointer (some ⟨tb,0,none⟩),.int .i64 o.id] W fun e w'=>∃ev,(ev=0\/ev=6)/\e= .returned (.int .i64 ev)/\∃F',TblAt w' tb p ts F'/\PagerAt w' p F' S/\Keeps F0 F' W w'):=fun W hW=>hdel W F0 (HT0.out.ext hW) (HP0.out.ext hW);have cW:Hid (∀i W,i<5->Calls Tryz.prog 89 #[.int .i64 (i:Nat),.agg #[.int .i64 o.id,.int .i64 o.proc,.int .i64 o.object,.int .i64 o.kind,.int .i64 o.method,.int .i64 o.arg,.int .i64 o.second,.bool o.done,.int .i64 o.result,.int .i64 o.invoke,.int .i64 o.ret]] W fun e w'=>e= .returned (.string (wayK i o))/\Ext W w'):=fun i W hi=>Z5p i o W hi (hin.way i);have HNO:=hD hno;have HD:=hD hd;have HTAB:=hD hT;have HROOM:=hD hroom;generalize hR:Z0x S=R at *;have HRR:Hid (Z0x S=R):=hR;clear hdel hno hd hT hroom hR ht hp hin ho;have cPut:Hid (∀k,k<5->∀(W wr:World) (S1:StoreD) (Ts1:Nat->TrD) (F1:Nat->Prop),PutK tb p ts Ts0 L o R F0 W0 k wr S1 Ts1 F1->Ext wr W->Calls Tryz.prog 34 #[.pointer (some ⟨ts k,0,none⟩),.string (wayK k o),.string (recW k o)] W fun e w'=>e= .returned (.int .i64 0)/\∃S' Ts' F',PutK tb p ts Ts0 L o R F0 W0 (k+1) w' S' Ts' F'):=fun k hk W wr S1 Ts1 F1 h hW=>by have hsame:=h.same k (aF _);have hneed:=Y8a Ts0 k 5 hk;have hdk:=HD.out k hk;have hr:=h.room;have hR:=HROOM.out;refine(X3l (Ts1 k) (wayK k o) (recW k o) W ((h.at_.ext hW).tree k hk) (h.at_.outs k hk) (h.pag.ext hW) (by omega) h.tab.fm (h.tab.tr k hk) (Z6w k o) (Z9t k (OpIn.of HOK.out)) (by rw[hsame];omega) (by rw[hsame];exact Z4m hdk)).mono ?_;rintro e w' ⟨rfl,S',T',hp,F',hp',hkp⟩;exact⟨rfl,S',_,F',h.step hk HOK.out (HNO.out k hk) hp hp' ((Keeps.of hW).trans hkp)⟩
 go_enter Tryz.func69,Tryz.ntmps69;go_upto_region 1 with fail;clear hW0;obtain⟨b0,b1,b2,b3,b4,b5,b6,b7,b8,b9,b10⟩:=At11.row HR0.out;go_upto_region 7 with (first
  | (go_at_call 131;(with_reducible refine(cE.out _).mono ?_);clear cE;rintro e w1 ⟨rfl,hb1⟩;have b0:=(At11.row (HR0.out.ext hb1 HR0.out.lt)).1;have HB1:=hD hb1;clear hb1)
  | (go_at_call 85;(with_reducible refine(cM.out _ HB1.out).mono ?_);clear cM;rintro e w2 ⟨rfl,rfl⟩)
  | (go_at_call 71;(with_reducible refine(cD.out _ HB1.out).mono ?_);clear cD;rintro e w3 ⟨ev,hev,rfl,F3,ht3,hp3,hk3⟩;have HT3:=hD ht3;have HP3:=hD hp3;have HK3:Hid (Keeps F0 F3 W0 w3):=(Keeps.of HB1.out).trans hk3;clear ht3 hp3 hk3))
 have HPK:Hid (PutK tb p ts Ts0 L o R F0 W0 0 w3 S Ts0 F3):=⟨HT3.out,HP3.out,HK3.out,HTAB.out.congr (fun i _=>rfl) (fun i _=>rfl),fun i hi=>absurd hi (by omega),fun i _=>rfl,by rw[HRR.out];exact aF _⟩;have t0:w3.cell? ⟨tb,0,none⟩=some (tp (ts 0)):=HT3.out.row.cell 0;have t1:w3.cell? ⟨tb,1,none⟩=some (tp (ts 1)):=HT3.out.row.cell 1;have t2:w3.cell? ⟨tb,2,none⟩=some (tp (ts 2)):=HT3.out.row.cell 2;have t3:w3.cell? ⟨tb,3,none⟩=some (tp (ts 3)):=HT3.out.row.cell 3;have t4:w3.cell? ⟨tb,4,none⟩=some (tp (ts 4)):=HT3.out.row.cell 4;clear b0 b1 b2 b3 b4 b5 b6 b7 b8 b9 b10
 go_cut [7,32] (fun _ v wx=>v= .bool false/\wx=w3)
 case first=>
  rcases hev with rfl | rfl
  ·go_wp2_with fail
   go_meet
   exact⟨rfl,rfl⟩
  ·go_wp2_with fail
   go_meet
   exact⟨rfl,rfl⟩
 case rest=>
 obtain⟨rfl,rfl⟩:=hcut;go_wp2_with fail;clear t0 t1 t2 t3 t4
 go_loopw [38] (fun x wr=>∃(k:Nat) (S1:StoreD) (Ts1:Nat->TrD) (F1:Nat->Prop),k<=5/\x= .int .i64 (k:Nat)/\PutK tb p ts Ts0 L o R F0 W0 k wr S1 Ts1 F1) (fun x _=>5-(intOf x).toNat)
 case atStart=>exact⟨0,S,Ts0,F3,by omega,rfl,HPK.out⟩
 case round=>
  obtain⟨k,S1,Ts1,F1,hk,rfl,hpk⟩:=hrel;have HP:=hD hpk;clear hpk;obtain⟨b0,b1,b2,b3,b4,b5,b6,b7,b8,b9,b10⟩:=At11.row (HP.out.keep.only.row HR0.out HLT.out);by_cases hk5:k=5
  ·subst hk5;go_wp2_with fail;go_ret;have h1:=HP.out;exact⟨rfl,S1,Ts1,F1,h1.at_,h1.pag,HWID.out _ _ h1.keep,h1.tab,h1.done,h1.same,h1.room⟩
  ·rcases(show k=0\/k=1\/k=2\/k=3\/k=4 from by omega)with rfl | rfl | rfl | rfl | rfl
   ·have cP:Hid (∀W,Ext wr W->Calls Tryz.prog 34 #[.pointer (some ⟨ts 0,0,none⟩),.string (wayK 0 o),.string (bts (opL o))] W fun e w'=>e= .returned (.int .i64 0)/\∃S' Ts' F',PutK tb p ts Ts0 L o R F0 W0 1 w' S' Ts' F'):=fun W hW=>cPut.out 0 (by omega) W wr S1 Ts1 F1 HP.out hW;have cW1:Hid (∀W,Calls Tryz.prog 89 #[.int .i64 0,.agg #[.int .i64 o.id,.int .i64 o.proc,.int .i64 o.object,.int .i64 o.kind,.int .i64 o.method,.int .i64 o.arg,.int .i64 o.second,.bool o.done,.int .i64 o.result,.int .i64 o.invoke,.int .i64 o.ret]] W fun e w'=>e= .returned (.string (wayK 0 o))/\Ext W w'):=fun W=>cW.out 0 W (by omega);generalize wayK 0 o=ky at cP cW1;have hix:=V0d ts wr;clear cW cPut;go_wp2_with (first
     | (go_at_call 89;(with_reducible refine(cW1.out _).mono ?_);clear cW1;rintro e w2 ⟨rfl,hb2⟩)
     | (go_at_call 34;(with_reducible refine(cP.out _ hb2).mono ?_);clear cP;rintro e w3 ⟨rfl,S3,Ts3,F3,hp3⟩;have HP3:=hD hp3;clear hp3))
    go_roundw
    case rel=>exact⟨1,S3,Ts3,F3,by omega,by go_num,HP3.out⟩
    case measure=>simp[intOf]
   ·have cP:Hid (∀W,Ext wr W->Calls Tryz.prog 34 #[.pointer (some ⟨ts 1,0,none⟩),.string (wayK 1 o),.string ⟨#[]⟩] W fun e w'=>e= .returned (.int .i64 0)/\∃S' Ts' F',PutK tb p ts Ts0 L o R F0 W0 2 w' S' Ts' F'):=fun W hW=>cPut.out 1 (by omega) W wr S1 Ts1 F1 HP.out hW;have cW1:Hid (∀W,Calls Tryz.prog 89 #[.int .i64 1,.agg #[.int .i64 o.id,.int .i64 o.proc,.int .i64 o.object,.int .i64 o.kind,.int .i64 o.method,.int .i64 o.arg,.int .i64 o.second,.bool o.done,.int .i64 o.result,.int .i64 o.invoke,.int .i64 o.ret]] W fun e w'=>e= .returned (.string (wayK 1 o))/\Ext W w'):=fun W=>cW.out 1 W (by omega);generalize wayK 1 o=ky at cP cW1;have hix:=V0c ts wr;clear cW cPut;go_wp2_with (first
     | (go_at_call 89;(with_reducible refine(cW1.out _).mono ?_);clear cW1;rintro e w2 ⟨rfl,hb2⟩)
     | (go_at_call 34;(with_reducible refine(cP.out _ hb2).mono ?_);clear cP;rintro e w3 ⟨rfl,S3,Ts3,F3,hp3⟩;have HP3:=hD hp3;clear hp3))
    go_roundw
    case rel=>exact⟨2,S3,Ts3,F3,by omega,by go_num,HP3.out⟩
    case measure=>simp[intOf]
   ·have cP:Hid (∀W,Ext wr W->Calls Tryz.prog 34 #[.pointer (some ⟨ts 2,0,none⟩),.string (wayK 2 o),.string ⟨#[]⟩] W fun e w'=>e= .returned (.int .i64 0)/\∃S' Ts' F',PutK tb p ts Ts0 L o R F0 W0 3 w' S' Ts' F'):=fun W hW=>cPut.out 2 (by omega) W wr S1 Ts1 F1 HP.out hW;have cW1:Hid (∀W,Calls Tryz.prog 89 #[.int .i64 2,.agg #[.int .i64 o.id,.int .i64 o.proc,.int .i64 o.object,.int .i64 o.kind,.int .i64 o.method,.int .i64 o.arg,.int .i64 o.second,.bool o.done,.int .i64 o.result,.int .i64 o.invoke,.int .i64 o.ret]] W fun e w'=>e= .returned (.string (wayK 2 o))/\Ext W w'):=fun W=>cW.out 2 W (by omega);generalize wayK 2 o=ky at cP cW1;have hix:=V0b ts wr;clear cW cPut;go_wp2_with (first
     | (go_at_call 89;(with_reducible refine(cW1.out _).mono ?_);clear cW1;rintro e w2 ⟨rfl,hb2⟩)
     | (go_at_call 34;(with_reducible refine(cP.out _ hb2).mono ?_);clear cP;rintro e w3 ⟨rfl,S3,Ts3,F3,hp3⟩;have HP3:=hD hp3;clear hp3))
    go_roundw
    case rel=>exact⟨3,S3,Ts3,F3,by omega,by go_num,HP3.out⟩
    case measure=>simp[intOf]
   ·have cP:Hid (∀W,Ext wr W->Calls Tryz.prog 34 #[.pointer (some ⟨ts 3,0,none⟩),.string (wayK 3 o),.string ⟨#[]⟩] W fun e w'=>e= .returned (.int .i64 0)/\∃S' Ts' F',PutK tb p ts Ts0 L o R F0 W0 4 w' S' Ts' F'):=fun W hW=>cPut.out 3 (by omega) W wr S1 Ts1 F1 HP.out hW;have cW1:Hid (∀W,Calls Tryz.prog 89 #[.int .i64 3,.agg #[.int .i64 o.id,.int .i64 o.proc,.int .i64 o.object,.int .i64 o.kind,.int .i64 o.method,.int .i64 o.arg,.int .i64 o.second,.bool o.done,.int .i64 o.result,.int .i64 o.invoke,.int .i64 o.ret]] W fun e w'=>e= .returned (.string (wayK 3 o))/\Ext W w'):=fun W=>cW.out 3 W (by omega);generalize wayK 3 o=ky at cP cW1;have hix:=V0a ts wr;clear cW cPut;go_wp2_with (first
     | (go_at_call 89;(with_reducible refine(cW1.out _).mono ?_);clear cW1;rintro e w2 ⟨rfl,hb2⟩)
     | (go_at_call 34;(with_reducible refine(cP.out _ hb2).mono ?_);clear cP;rintro e w3 ⟨rfl,S3,Ts3,F3,hp3⟩;have HP3:=hD hp3;clear hp3))
    go_roundw
    case rel=>exact⟨4,S3,Ts3,F3,by omega,by go_num,HP3.out⟩
    case measure=>simp[intOf]
   ·have cP:Hid (∀W,Ext wr W->Calls Tryz.prog 34 #[.pointer (some ⟨ts 4,0,none⟩),.string (wayK 4 o),.string ⟨#[]⟩] W fun e w'=>e= .returned (.int .i64 0)/\∃S' Ts' F',PutK tb p ts Ts0 L o R F0 W0 5 w' S' Ts' F'):=fun W hW=>cPut.out 4 (by omega) W wr S1 Ts1 F1 HP.out hW;have cW1:Hid (∀W,Calls Tryz.prog 89 #[.int .i64 4,.agg #[.int .i64 o.id,.int .i64 o.proc,.int .i64 o.object,.int .i64 o.kind,.int .i64 o.method,.int .i64 o.arg,.int .i64 o.second,.bool o.done,.int .i64 o.result,.int .i64 o.invoke,.int .i64 o.ret]] W fun e w'=>e= .returned (.string (wayK 4 o))/\Ext W w'):=fun W=>cW.out 4 W (by omega);generalize wayK 4 o=ky at cP cW1;have hix:=X9z ts wr;clear cW cPut;go_wp2_with (first
     | (go_at_call 89;(with_reducible refine(cW1.out _).mono ?_);clear cW1;rintro e w2 ⟨rfl,hb2⟩)
     | (go_at_call 34;(with_reducible refine(cP.out _ hb2).mono ?_);clear cP;rintro e w3 ⟨rfl,S3,Ts3,F3,hp3⟩;have HP3:=hD hp3;clear hp3))
    go_roundw
    case rel=>exact⟨5,S3,Ts3,F3,by omega,by go_num,HP3.out⟩
    case measure=>simp[intOf]
end Go.Proofs.YtohaldfnmgcofaaGreat
