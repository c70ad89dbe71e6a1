/- Put into any tree. Conditions: pages that bear a tree; room for what may be cut. -/
import Derived.Test.YtmiolpfanlpfnaaGreatW29
import Derived.Test.YtmiolpfanlpfnaaGreatW27
set_option maxRecDepth 100000
set_option maxHeartbeats 4000000
set_option linter.unusedSimpArgs false
set_option linter.unusedVariables false
namespace Go.Proofs.YtmiolpfanlpfnaaGreat
section
open Go.RowKit
theorem X3n{S:StoreD}:∀(d:Nat) (t:TT d),onT S d t->okT d t->V8q S d (atT d t)
 | 0,t,h,_=>⟨_,h,rfl⟩
 | d+1,t,h,hok=>by
   refine⟨_,h.1,rfl,?_⟩;have hl:0<(InT.kids t).length:=by have:=hok.2.1;omega
   have e:((Z0c (d+1) t).kids[0]?.getD 0)=(atT d (InT.kids t)[0]:Int):=by show(((InT.kids t).map fun c=>(atT d c:Int))[0]?).getD 0=_;rw[List.getElem?_map,aB hl];rfl
   rw[e,Int.toNat_natCast];exact X3n d _ (h.2 _ (List.getElem_mem hl)) (hok.2.2.2.1 _ (List.getElem_mem hl))
def Z8v(mid:ByteArray)(a r:Nat):NodeD:=⟨false,[mid],[],[(a:Int),(r:Int)]⟩
theorem V6l(w:World)(mid:ByteArray)(a r:Nat):NodeAs ((w.alloc (.cells #[.string mid] 9)).alloc (.cells #[.int .i64 a,.int .i64 r] 3)) (fun i=>w.heap.size<=i) (Z8v mid a r) (.slice (some ⟨w.heap.size,0,none⟩) 1 1) (.slice none 0 0) (.slice (some ⟨w.heap.size+1,0,none⟩) 2 2):=by
 have h1:Row1 ((w.alloc (.cells #[.string mid] 9)).alloc (.cells #[.int .i64 a,.int .i64 r] 3)) w.heap.size 9 (([mid].flatMap encS)++ []):=Row1.alloc (Row1.made w _ [.string mid]) _;have h2:Row1 ((w.alloc (.cells #[.string mid] 9)).alloc (.cells #[.int .i64 a,.int .i64 r] 3)) (w.heap.size+1) 3 (([(a:Int),(r:Int)].flatMap encN)++ []):=Row1.made' (by simp) _ [.int .i64 a,.int .i64 r];refine⟨OwnL.ofRow (k:=1) h1 (Nat.zero_le _) (aF 1) (by decide) rfl Z0d,OwnL.nil _ _ _ _ _,OwnL.ofRow (k:=1) h2 (Nat.zero_le _) (aF 2) (by decide) rfl Z0f,fun b q q'=>(by cases q'),fun b q=> ?_,fun b q=> ?_,fun b q=> ?_⟩
 ·have e1:w.heap.size=b:=Option.some.inj q;omega
 ·cases q
 ·have e2:w.heap.size+1=b:=Option.some.inj q;omega
theorem V6k{mid:ByteArray}{a r:Nat}(hm:mid.size<=32)(ha:a<65536)(hr:r<65536):NodeOk (Z8v mid a r)/\Z0m (Z8v mid a r)<=256:=by
 refine⟨⟨fun x hx=> ?_,fun x hx=>by simp[Z8v]at hx,fun c hc=> ?_,by simp[Z8v],(fun q=>by cases q),fun _=>⟨rfl,rfl⟩⟩,by simp[Z0m,Z0n,Z8v];omega⟩
 ·simp only[Z8v,List.mem_singleton]at hx;subst hx;omega
 ·simp only[Z8v,List.mem_cons,List.not_mem_nil,or_false]at hc;rcases hc with rfl | rfl<;>exact⟨by omega,by omega⟩
theorem V4u{tr p i d:Nat}{F:Nat->Prop}{S:StoreD}(t:TT d)(k v:ByteArray)(w:World)(ht:Z0b w tr p i)(hnt:¬F tr)(h:PagerAt w p F S)(hi:i<16)(hf:Fm S)(hroot:Z1w S i=atT d t)(hon:onT S d t)(hok:okT d t)(hnd:(Z0a d t).Nodup)(hk:Z3m k)(hv:v.size<=80)(hroom:d+2<=Z0z S)(hd:d<32):
  Calls Tryz.prog 119 #[.pointer (some ⟨tr,0,none⟩),.string k,.string v] w fun e w'=>e= .returned (.int .i64 0)/\∃S' T',Y2a S i k v S' T' (.yes d t)/\∃F',PagerAt w' p F' S'/\Keeps F F' w w':=by
 have cR:=Z4c w ht hnt h hi;rw[hroot]at cR;have ha:2<=atT d t:=(Z0k d t hon _ (Z0q d t)).1;have HRO:Hid (∀W F1,Z0b W tr p i->¬F1 tr->PagerAt W p F1 S->Calls Tryz.prog 179 #[.pointer (some ⟨tr,0,none⟩),.int .i64 (atT d t)] W fun e w'=>e= .returned (.int .i64 0)/\∃F',PagerAt w' p F' S/\Keeps F1 F' W w'):=fun W F1 q1 q2 q3=>by have q:=V5k (atT d t) d W q1 q2 q3 (X3n d t hon hok) hd;rw[V9t,if_neg (by omega)]at q;exact q
 have HPU:Hid (∀W F1,Z0b W tr p i->¬F1 tr->PagerAt W p F1 S->Calls Tryz.prog 180 #[.pointer (some ⟨tr,0,none⟩),.int .i64 (atT d t),.int .i64 32,.string k,.string v] W (Z9e d p F1 S t k v W)):=fun W F1 q1 q2 q3=>
  V5r k v hk hv d 32 t W q1 q2 q3 hf hon hok (by omega) hnd hd (by decide)
 have HSOME:Hid (∀S1 t' mid r,PutR d S t k v S1 t' (some (mid,r))->∃top,lowS S1=some top/\atT d t'=atT d t/\2<=atT d r/\Z0s (Z1f S1 top) top/\Z0s (layP (Z1f S1 top) top (Z8v mid (atT d t) (atT d r))) top/\NodeOk (Z8v mid (atT d t) (atT d r))/\Z0m (Z8v mid (atT d t) (atT d r))<=256):=fun S1 t' mid r q=>by obtain⟨F1,hl⟩:=Z5h d q hf hon hok hk hv hnd;have hf1:=hf.stp hl.stp (fun b q=>by cases q);have hro:=X3r hl.stp hl.nd (fun b hb=>⟨(hl.fresh b hb).1,(hl.fresh b hb).2.2⟩);have hlen:=hl.len;obtain⟨top,htop⟩:=Y7v hf1 (by omega);obtain⟨r1,r2,r3⟩:=Z4y htop;have hm1:=hf1.most;have hR:=hl.right mid r rfl;have gr:=Z0k d r hR.on _ (Z0q d r);have ga:=Z0k d t' hl.on _ (Z0q d t');rw[hl.at_]at ga;have hmk:=(Y7z hok hk mid hR.key).2;obtain⟨n1,n2⟩:=V6k (a:=atT d t) (r:=atT d r) hmk (by have:=ga.2.1;omega) (by have:=gr.2.1;omega);have t1:=Z6v hf1.full r1 (by omega:top<2048);have g1:Z0s (Z1f S1 top) top:=t1.givenF r1 r2 (by simp) (by simp);exact⟨top,htop,hl.at_,gr.1,g1,(Z5k t1.full r1 n1 n2).given g1 (by simp),n1,n2⟩
 have HNONE:Hid (∀S1 t',PutR d S t k v S1 t' none->Y2a S i k v S1 (.yes d t') (.yes d t)):=fun S1 t' q=>⟨S1,t',none,q,rfl,rfl⟩;have HYES:Hid (∀S1 t' mid r top,PutR d S t k v S1 t' (some (mid,r))->lowS S1=some top->atT d t'=atT d t->Y2a S i k v (Z0o (layP (Z1f S1 top) top (Z8v mid (atT d t) (atT d r))) i top) (.yes (d+1) (InT.mk top [mid] [t',r])) (.yes d t)):=fun S1 t' mid r top q1 q2 q3=>by refine⟨S1,t',some (mid,r),q1,top,q2,?_,rfl⟩;rw[q3];rfl
 have hkk:¬k.toList= []:=X3l hk.1;have hke:k.toList.isEmpty=false:=by cases h9:k.toList with | nil=>exact absurd h9 hkk | cons _ _=>rfl
 have hk2:=hk.2;have hkd:decide ((32:Int)<(k.size:Int))=false:=aM;have hvd:decide ((80:Int)<(v.size:Int))=false:=aM;have hkd':decide ((32:Nat)<k.size)=false:=aM;have hvd':decide ((80:Nat)<v.size)=false:=aM;obtain⟨a,hat⟩:∃a,atT d t=a:=⟨_,rfl⟩;rw[hat]at cR ha HRO HPU HSOME HYES;have ha0:decide ((a:Int)=0)=false:=aM;have ha1:((a:Int)==0)=false:=by simp;omega
 have HT:=hD ht;have HNT:=hD hnt;have HTL:=hD ht.lt;have HI:=hD hi;clear ht hnt h hroot hk hv hi hd hroom hf hon hok hnd hat hk2;go_enter Tryz.func119,Tryz.ntmps119;go_upto_region 20 with (first
  | (go_at_call 132;(with_reducible refine cR.mono ?_);clear cR;rintro e w1 ⟨rfl,F1,hp1,hk1⟩
     have hr1:Z0b w1 tr p i:=hk1.only.row HT.out HNT.out;have hn1:¬F1 tr:=hk1.out HTL.out HNT.out;have cO:=HRO.out w1 F1 hr1 hn1 hp1;have HR1:=hD hr1;have HN1:=hD hn1;have HK1:=hD hk1;clear hp1 hk1 hr1 hn1)
  | (go_at_call 179;(with_reducible refine cO.mono ?_);clear cO;rintro e w2 ⟨rfl,F2,hp2,hk2⟩
     have hr2:Z0b w2 tr p i:=hk2.only.row HR1.out HN1.out;have hn2:¬F2 tr:=hk2.out HR1.out.lt HN1.out;have cP:=HPU.out w2 F2 hr2 hn2 hp2;have HR2:=hD hr2;have HN2:=hD hn2;have HK2:Hid (Keeps F F2 w w2):=Keeps.trans HK1.out hk2;clear hp2 hk2 hr2 hn2)
  | (go_at_call 180;(with_reducible refine cP.mono ?_);clear cP;rintro e w3 ⟨S1,t',o,rfl,hput,F3,hp3,hk3⟩
     have HPUT:=hD hput;have HP3:=hD hp3;have HK3:Hid (Keeps F F3 w w3):=Keeps.trans HK2.out hk3;have HR3:Hid (Z0b w3 tr p i):=hk3.only.row HR2.out HN2.out;have HN3:Hid (¬F3 tr):=hk3.out HR2.out.lt HN2.out;clear hput hp3 hk3))
 cases o with
 | none=>
   have m0:midO d (none:Option (ByteArray×TT d))=⟨#[]⟩:=rfl;have r0:Y3e d (none:Option (ByteArray×TT d))=0:=rfl;rw[m0,r0];go_wp2_with fail;go_ret;exact⟨rfl,S1,_,HNONE.out _ _ HPUT.out,F3,HP3.out,HK3.out⟩
 | some x=>
   obtain⟨mid,r⟩:=x;have m0:midO d (some (mid,r))=mid:=rfl;have r0:Y3e d (some (mid,r))=atT d r:=rfl;rw[m0,r0];obtain⟨top,htop,hta,hr2,hg1,hg2,hn1,hn2⟩:=HSOME.out _ _ _ _ HPUT.out;have HFIN:=hD (HYES.out _ _ _ _ _ HPUT.out htop hta);obtain⟨ar,har⟩:∃ar,atT d r=ar:=⟨_,rfl⟩;rw[har]at hr2 hg2 hn1 hn2 HFIN ⊢;have T5:((ar:Int)==0)=false:=by simp;omega
   have T6:decide ((ar:Int)=0)=false:=aM;have cA:=Y0v top w3 HP3.out htop;have x0:w3.cell? ⟨tr,0,none⟩=some (.pointer (some ⟨p,0,none⟩)):=HR3.out.cell 0;have HGV:=hD hg2;have HLAY:Hid (∀W F2,Z0b W tr p i->¬F2 tr->PagerAt W p F2 (Z1f S1 top)->Calls Tryz.prog 177 #[.pointer (some ⟨tr,0,none⟩),.int .i64 top,.agg #[.bool false,.slice (some ⟨W.heap.size,0,none⟩) 1 1,.slice none 0 0,.slice (some ⟨W.heap.size+1,0,none⟩) 2 2]] ((W.alloc (.cells #[.string mid] 9)).alloc (.cells #[.int .i64 a,.int .i64 ar] 3)) fun e w'=>e= .returned (.int .i64 0)/\∃F',PagerAt w' p F' (layP (Z1f S1 top) top (Z8v mid a ar))/\Keeps F2 F' ((W.alloc (.cells #[.string mid] 9)).alloc (.cells #[.int .i64 a,.int .i64 ar] 3)) w'):=fun W F2 q1 q2 q3=>
    Y0z top (Z8v mid a ar) _ (Row1.alloc (Row1.alloc q1 _) _) q2 (q3.ext (Ext.trans (Ext.alloc _ _) (Ext.alloc _ _))) hg1 hn1 hn2 (V6l W mid a ar)
   clear htop hta hr2 hg1 hg2 hn1 hn2 har m0 r0;go_upto_region 28 with (first
    | (go_at_call 176;(with_reducible refine cA.mono ?_);clear cA;rintro e w4 ⟨rfl,F4,hp4,hk4⟩
       have hr4:Z0b w4 tr p i:=hk4.only.row HR3.out HN3.out;have hn4:¬F4 tr:=hk4.out HR3.out.lt HN3.out;have HR4:=hD hr4;have HN4:=hD hn4;have HP4:=hD hp4;have HK4:Hid (Keeps F F4 w w4):=Keeps.trans HK3.out hk4;clear hp4 hk4 hr4 hn4)
    | (go_at_call 177;(with_reducible refine(HLAY.out w4 F4 HR4.out HN4.out HP4.out).mono ?_);clear HLAY;rintro e w5 ⟨rfl,F5,hp5,hk5⟩
       have hx:Ext w4 ((w4.alloc (.cells #[.string mid] 9)).alloc (.cells #[.int .i64 a,.int .i64 ar] 3)):=Ext.trans (Ext.alloc _ _) (Ext.alloc _ _);have hk45:Keeps F4 F5 w4 w5:=Keeps.trans (Keeps.of hx) hk5;have hr5:Z0b w5 tr p i:=hk45.only.row HR4.out HN4.out;have HR5:=hD hr5;have HN5:Hid (¬F5 tr):=hk45.out HR4.out.lt HN4.out;have HP5:=hD hp5;have HK5:Hid (Keeps F F5 w w5):=Keeps.trans HK4.out hk45;clear hx hk45 hr5 hp5 hk5))
   have HC:Hid (∀W,Ext w5 W->W.cell? ⟨tr,0,none⟩=some (.pointer (some ⟨p,0,none⟩))/\W.cell? ⟨tr,1,none⟩=some (.int .i64 i)):=fun W hW=>⟨(HR5.out.ext hW HR5.out.lt).cell 0,(HR5.out.ext hW HR5.out.lt).cell 1⟩;have cT:Hid (∀W,Ext w5 W->Calls Tryz.prog 178 #[.pointer (some ⟨p,0,none⟩),.int .i64 i,.int .i64 top] W fun e w'=>e= .returned (.int .i64 0)/\∃F',PagerAt w' p F' (Z0o (layP (Z1f S1 top) top (Z8v mid a ar)) i top)/\Keeps F5 F' W w'):=fun W hW=>Z6d i top W (HP5.out.ext hW) HI.out (.inr HGV.out);refine wp_region_held_drew (S:=fun W=>W.cell? ⟨tr,0,none⟩=some (.pointer (some ⟨p,0,none⟩))/\W.cell? ⟨tr,1,none⟩=some (.int .i64 i)) (by kernel_rfl) (HC.out _ (by exact Xt)) (fun hHeld=> ?_);refine' tk 0 ?_;refine' tk 1 ?_;refine' tk 2 ?_;refine' tk 3 ?_;refine' tk 4 ?_;refine' tk 5 ?_;refine' tk 6 ?_;refine' tk 7 ?_;refine' tk 8 ?_;refine stp 9 (fun K hK=> ?_);go_simp
   (with_reducible refine(cT.out _ ?_).mono ?_)
   ·exact Xt
   rintro e w6 ⟨rfl,F6,hp6,hk6⟩;have hk56:Keeps F5 F6 w5 w6:=Keeps.trans (Keeps.of (by exact Xt)) hk6;have hr6:Z0b w6 tr p i:=hk56.only.row HR5.out HN5.out;have HC9:Hid (w6.cell? ⟨tr,0,none⟩=some (.pointer (some ⟨p,0,none⟩))/\w6.cell? ⟨tr,1,none⟩=some (.int .i64 i)):=⟨hr6.cell 0,hr6.cell 1⟩;have HP6:=hD hp6;have HK6:Hid (Keeps F F6 w w6):=Keeps.trans HK5.out hk56;clear hp6 hk6 hk56 hr6
   (try dsimp only)
   (try go_simp)
   refine hK.out _ _ (HC9.out) (fun hHeld=> ?_);clear hK K;refine pt ?_;refine' tk 10 ?_;refine wpAnyH_done (by kernel_rfl) ?_ _;go_wp2_with fail;go_ret;exact⟨rfl,_,_,HFIN.out,F6,HP6.out,HK6.out⟩
theorem X3i{tr p i:Nat}{F:Nat->Prop}{S:StoreD}(T:TrD)(k v:ByteArray)(w:World)(ht:Z0b w tr p i)(hnt:¬F tr)(h:PagerAt w p F S)(hi:i<16)(hf:Fm S)(hT:TrS S i T)(hk:Z3m k)(hv:v.size<=80)(hroom:T.need<=Z0z S)(hd:T.fine):
  Calls Tryz.prog 119 #[.pointer (some ⟨tr,0,none⟩),.string k,.string v] w fun e w'=>e= .returned (.int .i64 0)/\∃S' T',Y2a S i k v S' T' T/\∃F',PagerAt w' p F' S'/\Keeps F F' w w':=by
 cases T with
 | no=>
   obtain⟨a,ha⟩:=Y7v hf (by have:TrD.need .no=1:=rfl;omega);refine(V5o a k v w ht hnt h hi hT ha hk.1 hk.2 hv).mono ?_;rintro e w' ⟨rfl,q⟩;exact⟨rfl,_,_,⟨a,ha,rfl,rfl⟩,q⟩
 | yes d t=>exact V4u t k v w ht hnt h hi hf hT.1 hT.2.1 hT.2.2.1 hT.2.2.2 hk hv hroom (by have:d<31:=hd;omega)
theorem V0b(ts:Nat->Nat)(w:World):Sem.run Tryz.prog (Instr.index 117 (.agg #[tp (ts 0),tp (ts 1),tp (ts 2),tp (ts 3),tp (ts 4)]) (.int .i64 0)) w= .ok (tp (ts 0)) w:=by kernel_rfl
theorem V0a(ts:Nat->Nat)(w:World):Sem.run Tryz.prog (Instr.index 117 (.agg #[tp (ts 0),tp (ts 1),tp (ts 2),tp (ts 3),tp (ts 4)]) (.int .i64 1)) w= .ok (tp (ts 1)) w:=by kernel_rfl
theorem X9z(ts:Nat->Nat)(w:World):Sem.run Tryz.prog (Instr.index 117 (.agg #[tp (ts 0),tp (ts 1),tp (ts 2),tp (ts 3),tp (ts 4)]) (.int .i64 2)) w= .ok (tp (ts 2)) w:=by kernel_rfl
theorem X9y(ts:Nat->Nat)(w:World):Sem.run Tryz.prog (Instr.index 117 (.agg #[tp (ts 0),tp (ts 1),tp (ts 2),tp (ts 3),tp (ts 4)]) (.int .i64 3)) w= .ok (tp (ts 3)) w:=by kernel_rfl
theorem X9x(ts:Nat->Nat)(w:World):Sem.run Tryz.prog (Instr.index 117 (.agg #[tp (ts 0),tp (ts 1),tp (ts 2),tp (ts 3),tp (ts 4)]) (.int .i64 4)) w= .ok (tp (ts 4)) w:=by kernel_rfl
theorem X9k{tb p:Nat}{ts:Nat->Nat}{F:Nat->Prop}{S0 S:StoreD}{Ts0:Nat->TrD}{L:Nat->List OpD}(o:OpD)(w:World)(ht:TblAt w tb p ts F)(hp:PagerAt w p F S0)(ho:Z2i o=0)
 (hdel:∀(W:World) (F1:Nat->Prop),TblAt W tb p ts F1->PagerAt W p F1 S0->Calls Tryz.prog 59 #[.pointer (some ⟨tb,0,none⟩),.int .i64 o.id] W fun e w'=>∃ev,(ev=0\/ev=6)/\e= .returned (.int .i64 ev)/\∃F',TblAt w' tb p ts F'/\PagerAt w' p F' S/\Keeps F1 F' W w')
 (hT:Tab S Ts0 L)(hno:∀i,i<5->∀x∈L i,x.id≠o.id)(hd:∀i,i<5->depT (Ts0 i)<=31)(hroom:Z4x Ts0 5<=Z0z S):
  Calls Tryz.prog 55 #[.pointer (some ⟨tb,0,none⟩),o.val] w fun e w'=>e= .returned (.int .i64 0)/\∃S' Ts' F',PutK tb p ts Ts0 L o (Z0z S) F w 5 w' S' Ts' F':=by
 have hin:=OpIn.of ho;have HOK:=hD ho;obtain⟨W0,hW0⟩:∃W0,w.alloc (.cells #[.int .i64 o.id,.int .i64 o.proc,.int .i64 o.object,.int .i64 o.kind,.int .i64 o.method,.int .i64 o.arg,.int .i64 o.second,.bool o.done,.int .i64 o.result,.int .i64 o.invoke,.int .i64 o.ret] 32)=W0:=⟨_,rfl⟩;have HX0:Hid (Ext w W0):=by unfold Hid;rw[<-hW0];exact Ext.alloc _ _
 have HR0:Hid (Row1 W0 w.heap.size 32 o.cells):=by unfold Hid;rw[<-hW0];exact Row1.made w _ _
 have HT0:Hid (TblAt W0 tb p ts (fun i=>F i/\i<w.heap.size)):=TblAt.ext (F:=fun i=>F i/\i<w.heap.size) ⟨ht.row,ht.tree,fun q=>ht.out q.1,fun j hj q=>ht.outs j hj q.1⟩ HX0.out;have HP0:Hid (PagerAt W0 p (fun i=>F i/\i<w.heap.size) S0):=PagerAt.ext (F:=fun i=>F i/\i<w.heap.size) hp.shrink HX0.out;have HWID:Hid (∀(F':Nat->Prop) (w':World),Keeps (fun i=>F i/\i<w.heap.size) F' W0 w'->Keeps F F' w w'):=fun F' w' h=>((Keeps.of HX0.out).trans h).widen (fun i q=>q.1);have HLT:Hid (¬(fun i=>F i/\i<w.heap.size) w.heap.size):=fun q=>absurd q.2 (Nat.lt_irrefl _);generalize (fun i=>F i/\i<w.heap.size)=F0 at *;have HRES:=hin.result;have cE:Hid (∀W,Calls Tryz.prog 118 #[.agg #[.int .i64 o.id,.int .i64 o.proc,.int .i64 o.object,.int .i64 o.kind,.int .i64 o.method,.int .i64 o.arg,.int .i64 o.second,.bool o.done,.int .i64 o.result,.int .i64 o.invoke,.int .i64 o.ret]] W fun e w'=>e= .returned (.tuple #[.string (bts (opL o)),.int .i64 0])/\Ext W w'):=fun W=>by have h1:=Z7c o W (by omega);rw[ho,if_pos rfl]at h1;exact h1
 have cM:Hid (∀W,Ext W0 W->Calls Tryz.prog 70 #[.pointer (some ⟨tb,0,none⟩)] W fun e w'=>e= .returned (.bool true)/\W=w'):=fun W hW=>Z2w W (HT0.out.ext hW).row;have cD:Hid (∀W,Ext W0 W->Calls Tryz.prog 59 #[.pointer (some ⟨tb,0,none⟩),.int .i64 o.id] W fun e w'=>∃ev,(ev=0\/ev=6)/\e= .returned (.int .i64 ev)/\∃F',TblAt w' tb p ts F'/\PagerAt w' p F' S/\Keeps F0 F' W w'):=fun W hW=>hdel W F0 (HT0.out.ext hW) (HP0.out.ext hW);have cW:Hid (∀i W,i<5->Calls Tryz.prog 120 #[.int .i64 (i:Nat),.agg #[.int .i64 o.id,.int .i64 o.proc,.int .i64 o.object,.int .i64 o.kind,.int .i64 o.method,.int .i64 o.arg,.int .i64 o.second,.bool o.done,.int .i64 o.result,.int .i64 o.invoke,.int .i64 o.ret]] W fun e w'=>e= .returned (.string (wayK i o))/\Ext W w'):=fun i W hi=>Z9f i o W hi (hin.way i);have HNO:=hD hno;have HD:=hD hd;have HTAB:=hD hT;have HROOM:=hD hroom;generalize hR:Z0z S=R at *;have HRR:Hid (Z0z S=R):=hR;clear hdel hno hd hT hroom hR ht hp hin ho;have cPut:Hid (∀k,k<5->∀(W wr:World) (S1:StoreD) (Ts1:Nat->TrD) (F1:Nat->Prop),PutK tb p ts Ts0 L o R F0 W0 k wr S1 Ts1 F1->Ext wr W->Calls Tryz.prog 119 #[.pointer (some ⟨ts k,0,none⟩),.string (wayK k o),.string (recW k o)] W fun e w'=>e= .returned (.int .i64 0)/\∃S' Ts' F',PutK tb p ts Ts0 L o R F0 W0 (k+1) w' S' Ts' F'):=fun k hk W wr S1 Ts1 F1 h hW=>by have hsame:=h.same k (aF _);have hneed:=Y7s Ts0 k 5 hk;have hdk:=HD.out k hk;have hr:=h.room;have hR:=HROOM.out;refine(X3i (Ts1 k) (wayK k o) (recW k o) W ((h.at_.ext hW).tree k hk) (h.at_.outs k hk) (h.pag.ext hW) (by omega) h.tab.fm (h.tab.tr k hk) (Y2t k o) (Z9p k (OpIn.of HOK.out)) (by rw[hsame];omega) (by rw[hsame];exact Z8j hdk)).mono ?_;rintro e w' ⟨rfl,S',T',hp,F',hp',hkp⟩;exact⟨rfl,S',_,F',h.step hk HOK.out (HNO.out k hk) hp hp' ((Keeps.of hW).trans hkp)⟩
 go_enter Tryz.func55,Tryz.ntmps55;go_upto_region 1 with fail;clear hW0;obtain⟨b0,b1,b2,b3,b4,b5,b6,b7,b8,b9,b10⟩:=At11.row HR0.out;go_upto_region 7 with (first
  | (go_at_call 118;(with_reducible refine(cE.out _).mono ?_);clear cE;rintro e w1 ⟨rfl,hb1⟩;have b0:=(At11.row (HR0.out.ext hb1 HR0.out.lt)).1;have HB1:=hD hb1;clear hb1)
  | (go_at_call 70;(with_reducible refine(cM.out _ HB1.out).mono ?_);clear cM;rintro e w2 ⟨rfl,rfl⟩)
  | (go_at_call 59;(with_reducible refine(cD.out _ HB1.out).mono ?_);clear cD;rintro e w3 ⟨ev,hev,rfl,F3,ht3,hp3,hk3⟩;have HT3:=hD ht3;have HP3:=hD hp3;have HK3:Hid (Keeps F0 F3 W0 w3):=(Keeps.of HB1.out).trans hk3;clear ht3 hp3 hk3))
 have HPK:Hid (PutK tb p ts Ts0 L o R F0 W0 0 w3 S Ts0 F3):=⟨HT3.out,HP3.out,HK3.out,HTAB.out.congr (fun i _=>rfl) (fun i _=>rfl),fun i hi=>absurd hi (by omega),fun i _=>rfl,by rw[HRR.out];exact aF _⟩;have t0:w3.cell? ⟨tb,0,none⟩=some (tp (ts 0)):=HT3.out.row.cell 0;have t1:w3.cell? ⟨tb,1,none⟩=some (tp (ts 1)):=HT3.out.row.cell 1;have t2:w3.cell? ⟨tb,2,none⟩=some (tp (ts 2)):=HT3.out.row.cell 2;have t3:w3.cell? ⟨tb,3,none⟩=some (tp (ts 3)):=HT3.out.row.cell 3;have t4:w3.cell? ⟨tb,4,none⟩=some (tp (ts 4)):=HT3.out.row.cell 4;clear b0 b1 b2 b3 b4 b5 b6 b7 b8 b9 b10
 go_cut [7,32] (fun _ v wx=>v= .bool false/\wx=w3)
 case first=>
  rcases hev with rfl | rfl
  ·go_wp2_with fail
   go_meet
   exact⟨rfl,rfl⟩
  ·go_wp2_with fail
   go_meet
   exact⟨rfl,rfl⟩
 case rest=>
 obtain⟨rfl,rfl⟩:=hcut;go_wp2_with fail;clear t0 t1 t2 t3 t4
 go_loopw [38] (fun x wr=>∃(k:Nat) (S1:StoreD) (Ts1:Nat->TrD) (F1:Nat->Prop),k<=5/\x= .int .i64 (k:Nat)/\PutK tb p ts Ts0 L o R F0 W0 k wr S1 Ts1 F1) (fun x _=>5-(intOf x).toNat)
 case atStart=>exact⟨0,S,Ts0,F3,by omega,rfl,HPK.out⟩
 case round=>
  obtain⟨k,S1,Ts1,F1,hk,rfl,hpk⟩:=hrel;have HP:=hD hpk;clear hpk;obtain⟨b0,b1,b2,b3,b4,b5,b6,b7,b8,b9,b10⟩:=At11.row (HP.out.keep.only.row HR0.out HLT.out);by_cases hk5:k=5
  ·subst hk5;go_wp2_with fail;go_ret;have h1:=HP.out;exact⟨rfl,S1,Ts1,F1,h1.at_,h1.pag,HWID.out _ _ h1.keep,h1.tab,h1.done,h1.same,h1.room⟩
  ·rcases(show k=0\/k=1\/k=2\/k=3\/k=4 from by omega)with rfl | rfl | rfl | rfl | rfl
   ·have cP:Hid (∀W,Ext wr W->Calls Tryz.prog 119 #[.pointer (some ⟨ts 0,0,none⟩),.string (wayK 0 o),.string (bts (opL o))] W fun e w'=>e= .returned (.int .i64 0)/\∃S' Ts' F',PutK tb p ts Ts0 L o R F0 W0 1 w' S' Ts' F'):=fun W hW=>cPut.out 0 (by omega) W wr S1 Ts1 F1 HP.out hW;have cW1:Hid (∀W,Calls Tryz.prog 120 #[.int .i64 0,.agg #[.int .i64 o.id,.int .i64 o.proc,.int .i64 o.object,.int .i64 o.kind,.int .i64 o.method,.int .i64 o.arg,.int .i64 o.second,.bool o.done,.int .i64 o.result,.int .i64 o.invoke,.int .i64 o.ret]] W fun e w'=>e= .returned (.string (wayK 0 o))/\Ext W w'):=fun W=>cW.out 0 W (by omega);generalize wayK 0 o=ky at cP cW1;have hix:=V0b ts wr;clear cW cPut;go_wp2_with (first
     | (go_at_call 120;(with_reducible refine(cW1.out _).mono ?_);clear cW1;rintro e w2 ⟨rfl,hb2⟩)
     | (go_at_call 119;(with_reducible refine(cP.out _ hb2).mono ?_);clear cP;rintro e w3 ⟨rfl,S3,Ts3,F3,hp3⟩;have HP3:=hD hp3;clear hp3))
    go_roundw
    case rel=>exact⟨1,S3,Ts3,F3,by omega,by go_num,HP3.out⟩
    case measure=>simp[intOf]
   ·have cP:Hid (∀W,Ext wr W->Calls Tryz.prog 119 #[.pointer (some ⟨ts 1,0,none⟩),.string (wayK 1 o),.string ⟨#[]⟩] W fun e w'=>e= .returned (.int .i64 0)/\∃S' Ts' F',PutK tb p ts Ts0 L o R F0 W0 2 w' S' Ts' F'):=fun W hW=>cPut.out 1 (by omega) W wr S1 Ts1 F1 HP.out hW;have cW1:Hid (∀W,Calls Tryz.prog 120 #[.int .i64 1,.agg #[.int .i64 o.id,.int .i64 o.proc,.int .i64 o.object,.int .i64 o.kind,.int .i64 o.method,.int .i64 o.arg,.int .i64 o.second,.bool o.done,.int .i64 o.result,.int .i64 o.invoke,.int .i64 o.ret]] W fun e w'=>e= .returned (.string (wayK 1 o))/\Ext W w'):=fun W=>cW.out 1 W (by omega);generalize wayK 1 o=ky at cP cW1;have hix:=V0a ts wr;clear cW cPut;go_wp2_with (first
     | (go_at_call 120;(with_reducible refine(cW1.out _).mono ?_);clear cW1;rintro e w2 ⟨rfl,hb2⟩)
     | (go_at_call 119;(with_reducible refine(cP.out _ hb2).mono ?_);clear cP;rintro e w3 ⟨rfl,S3,Ts3,F3,hp3⟩;have HP3:=hD hp3;clear hp3))
    go_roundw
    case rel=>exact⟨2,S3,Ts3,F3,by omega,by go_num,HP3.out⟩
    case measure=>simp[intOf]
   ·have cP:Hid (∀W,Ext wr W->Calls Tryz.prog 119 #[.pointer (some ⟨ts 2,0,none⟩),.string (wayK 2 o),.string ⟨#[]⟩] W fun e w'=>e= .returned (.int .i64 0)/\∃S' Ts' F',PutK tb p ts Ts0 L o R F0 W0 3 w' S' Ts' F'):=fun W hW=>cPut.out 2 (by omega) W wr S1 Ts1 F1 HP.out hW;have cW1:Hid (∀W,Calls Tryz.prog 120 #[.int .i64 2,.agg #[.int .i64 o.id,.int .i64 o.proc,.int .i64 o.object,.int .i64 o.kind,.int .i64 o.method,.int .i64 o.arg,.int .i64 o.second,.bool o.done,.int .i64 o.result,.int .i64 o.invoke,.int .i64 o.ret]] W fun e w'=>e= .returned (.string (wayK 2 o))/\Ext W w'):=fun W=>cW.out 2 W (by omega);generalize wayK 2 o=ky at cP cW1;have hix:=X9z ts wr;clear cW cPut;go_wp2_with (first
     | (go_at_call 120;(with_reducible refine(cW1.out _).mono ?_);clear cW1;rintro e w2 ⟨rfl,hb2⟩)
     | (go_at_call 119;(with_reducible refine(cP.out _ hb2).mono ?_);clear cP;rintro e w3 ⟨rfl,S3,Ts3,F3,hp3⟩;have HP3:=hD hp3;clear hp3))
    go_roundw
    case rel=>exact⟨3,S3,Ts3,F3,by omega,by go_num,HP3.out⟩
    case measure=>simp[intOf]
   ·have cP:Hid (∀W,Ext wr W->Calls Tryz.prog 119 #[.pointer (some ⟨ts 3,0,none⟩),.string (wayK 3 o),.string ⟨#[]⟩] W fun e w'=>e= .returned (.int .i64 0)/\∃S' Ts' F',PutK tb p ts Ts0 L o R F0 W0 4 w' S' Ts' F'):=fun W hW=>cPut.out 3 (by omega) W wr S1 Ts1 F1 HP.out hW;have cW1:Hid (∀W,Calls Tryz.prog 120 #[.int .i64 3,.agg #[.int .i64 o.id,.int .i64 o.proc,.int .i64 o.object,.int .i64 o.kind,.int .i64 o.method,.int .i64 o.arg,.int .i64 o.second,.bool o.done,.int .i64 o.result,.int .i64 o.invoke,.int .i64 o.ret]] W fun e w'=>e= .returned (.string (wayK 3 o))/\Ext W w'):=fun W=>cW.out 3 W (by omega);generalize wayK 3 o=ky at cP cW1;have hix:=X9y ts wr;clear cW cPut;go_wp2_with (first
     | (go_at_call 120;(with_reducible refine(cW1.out _).mono ?_);clear cW1;rintro e w2 ⟨rfl,hb2⟩)
     | (go_at_call 119;(with_reducible refine(cP.out _ hb2).mono ?_);clear cP;rintro e w3 ⟨rfl,S3,Ts3,F3,hp3⟩;have HP3:=hD hp3;clear hp3))
    go_roundw
    case rel=>exact⟨4,S3,Ts3,F3,by omega,by go_num,HP3.out⟩
    case measure=>simp[intOf]
   ·have cP:Hid (∀W,Ext wr W->Calls Tryz.prog 119 #[.pointer (some ⟨ts 4,0,none⟩),.string (wayK 4 o),.string ⟨#[]⟩] W fun e w'=>e= .returned (.int .i64 0)/\∃S' Ts' F',PutK tb p ts Ts0 L o R F0 W0 5 w' S' Ts' F'):=fun W hW=>cPut.out 4 (by omega) W wr S1 Ts1 F1 HP.out hW;have cW1:Hid (∀W,Calls Tryz.prog 120 #[.int .i64 4,.agg #[.int .i64 o.id,.int .i64 o.proc,.int .i64 o.object,.int .i64 o.kind,.int .i64 o.method,.int .i64 o.arg,.int .i64 o.second,.bool o.done,.int .i64 o.result,.int .i64 o.invoke,.int .i64 o.ret]] W fun e w'=>e= .returned (.string (wayK 4 o))/\Ext W w'):=fun W=>cW.out 4 W (by omega);generalize wayK 4 o=ky at cP cW1;have hix:=X9x ts wr;clear cW cPut;go_wp2_with (first
     | (go_at_call 120;(with_reducible refine(cW1.out _).mono ?_);clear cW1;rintro e w2 ⟨rfl,hb2⟩)
     | (go_at_call 119;(with_reducible refine(cP.out _ hb2).mono ?_);clear cP;rintro e w3 ⟨rfl,S3,Ts3,F3,hp3⟩;have HP3:=hD hp3;clear hp3))
    go_roundw
    case rel=>exact⟨5,S3,Ts3,F3,by omega,by go_num,HP3.out⟩
    case measure=>simp[intOf]
theorem X9w(f:Nat)(ya yb:Array Value)(W:World):Sem.run Tryz.prog (binOp .eql 44 (.func (.func f) ya yb) .nilFunc) W= .ok (.bool false) W:=by kernel_rfl
def U1l{A:Option Addr}{n c:Nat}(pv:Option Addr)(way:Int)(w:World)(e:Ending)(w':World):Prop:=
 ∃bt bw bf,e= .returned (.func (.func 129) #[] #[.pointer (some ⟨bf,0,none⟩),.pointer (some ⟨bt,0,none⟩),.pointer (some ⟨bw,0,none⟩)])/\Ext w w'/\w.heap.size<=bt/\w.heap.size<=bw/\w.heap.size<=bf/\
  Row1 w' bt 26 [.pointer pv]/\Row1 w' bw 3 [.int .i64 way]/\Row1 w' bf 23 [.slice A n c]
theorem V7t{A:Option Addr}{n c:Nat}(pv:Option Addr)(way:Int)(w:World):
  Calls Tryz.prog 65 #[.pointer pv,.int .i64 way,.slice A n c] w (U1l (A:=A) (n:=n) (c:=c) pv way w):=by
 have HR:Hid (∀W',W'=((w.alloc (.cells #[.pointer pv] 26)).alloc (.cells #[.int .i64 way] 3)).alloc (.cells #[.slice A n c] 23)->U1l (A:=A) (n:=n) (c:=c) pv way w (.returned (.func (.func 129) #[] #[.pointer (some ⟨w.heap.size+2,0,none⟩),.pointer (some ⟨w.heap.size,0,none⟩),.pointer (some ⟨w.heap.size+1,0,none⟩)])) W'):=by rintro W' rfl;exact⟨w.heap.size,w.heap.size+1,w.heap.size+2,rfl,(Ext.alloc _ _).trans ((Ext.alloc _ _).trans (Ext.alloc _ _)),by omega,by omega,by omega,((Row1.made w _ [.pointer pv]).alloc _).alloc _,(Row1.made' (by simp) _ [.int .i64 way]).alloc _,Row1.made' (by simp) _ [.slice A n c]⟩
 go_enter Tryz.func65,Tryz.ntmps65;go_wp2_with fail;go_ret;exact HR.out _ rfl
structure FJ (bl bm:Nat) (most:Int) (pre:List OpD) (G:Nat->Prop) (W:World):Prop where
 list:∃A c,OwnL W 0 32 11 OpD.cells (.slice A pre.length c) pre/\Row1 W bl 30 [.slice A pre.length c]/\∀k,(Value.slice A pre.length c).ownBlock=some k->G k
 most:Row1 W bm 3 [.int .i64 most]
 gl:G bl
 gm:G bm
theorem Y6i{bl bm:Nat}{most:Int}{pre:List OpD}{G:Nat->Prop}(x:OpD)(W:World)(h:FJ bl bm most pre G W)(hp:pre.length<=100000):
  Calls Tryz.prog 66 #[x.val,.pointer (some ⟨bl,0,none⟩),.pointer (some ⟨bm,0,none⟩)] W fun e W'=>e= .returned (.bool (decide ((pre.length:Int)+1<most)))/\∃G2,FJ bl bm most (pre++ [x]) G2 W'/\Keeps G G2 W W':=by
 obtain⟨A,c,ho,hr,hk⟩:=h.list;have hm:=h.most;have hgl:=h.gl;have hgm:=h.gm;have hne:bl≠bm:=hr.apart hm (by decide);have hvl:(Value.slice A pre.length c).ownBlock≠some bl:=ho.apartRow hr (by decide);have hvm:(Value.slice A pre.length c).ownBlock≠some bm:=ho.apartRow hm (by decide);have c0:W.cell? ⟨bl,0,none⟩=some (.slice A pre.length c):=hr.cell 0;have HO:=hD ho;have HR:=hD hr;have HM:=hD hm;have HK:=hD hk;have HGL:=hD hgl;have HGM:=hD hgm;have hbl:=hr.lt;have hbm:=hm.lt;obtain⟨n,hn⟩:∃n,pre.length=n:=⟨_,rfl⟩;have HN:=hD hn;have HLN:Hid ((pre++ [x]).length=n+1):=by unfold Hid;rw[aA,aK,hn]
 rw[hn]at hp ho hr hk hvl hvm c0 HO HR HK ⊢;clear h hn ho hr hm hk hgl hgm;go_enter Tryz.func66,Tryz.ntmps66;go_upto_region 1 with fail;have HX2:Hid (Ext W ((W.alloc (.cells #[.int .i64 x.id,.int .i64 x.proc,.int .i64 x.object,.int .i64 x.kind,.int .i64 x.method,.int .i64 x.arg,.int .i64 x.second,.bool x.done,.int .i64 x.result,.int .i64 x.invoke,.int .i64 x.ret] 32)).alloc (.cells #[.int .i64 x.id,.int .i64 x.proc,.int .i64 x.object,.int .i64 x.kind,.int .i64 x.method,.int .i64 x.arg,.int .i64 x.second,.bool x.done,.int .i64 x.result,.int .i64 x.invoke,.int .i64 x.ret] 32))):=(Ext.alloc _ _).trans (Ext.alloc _ _);have HOX:Hid (OwnL ((W.alloc (.cells #[.int .i64 x.id,.int .i64 x.proc,.int .i64 x.object,.int .i64 x.kind,.int .i64 x.method,.int .i64 x.arg,.int .i64 x.second,.bool x.done,.int .i64 x.result,.int .i64 x.invoke,.int .i64 x.ret] 32)).alloc (.cells #[.int .i64 x.id,.int .i64 x.proc,.int .i64 x.object,.int .i64 x.kind,.int .i64 x.method,.int .i64 x.arg,.int .i64 x.second,.bool x.done,.int .i64 x.result,.int .i64 x.invoke,.int .i64 x.ret] 32)) 0 32 11 OpD.cells (.slice A n c) pre):=HO.out.ext HX2.out;have HRX:Hid (Row1 ((W.alloc (.cells #[.int .i64 x.id,.int .i64 x.proc,.int .i64 x.object,.int .i64 x.kind,.int .i64 x.method,.int .i64 x.arg,.int .i64 x.second,.bool x.done,.int .i64 x.result,.int .i64 x.invoke,.int .i64 x.ret] 32)).alloc (.cells #[.int .i64 x.id,.int .i64 x.proc,.int .i64 x.object,.int .i64 x.kind,.int .i64 x.method,.int .i64 x.arg,.int .i64 x.second,.bool x.done,.int .i64 x.result,.int .i64 x.invoke,.int .i64 x.ret] 32)) bl 30 [.slice A n c]):=HR.out.ext HX2.out hbl;have HMX:Hid (Row1 ((W.alloc (.cells #[.int .i64 x.id,.int .i64 x.proc,.int .i64 x.object,.int .i64 x.kind,.int .i64 x.method,.int .i64 x.arg,.int .i64 x.second,.bool x.done,.int .i64 x.result,.int .i64 x.invoke,.int .i64 x.ret] 32)).alloc (.cells #[.int .i64 x.id,.int .i64 x.proc,.int .i64 x.object,.int .i64 x.kind,.int .i64 x.method,.int .i64 x.arg,.int .i64 x.second,.bool x.done,.int .i64 x.result,.int .i64 x.invoke,.int .i64 x.ret] 32)) bm 3 [.int .i64 most]):=HM.out.ext HX2.out hbm;have HP1:Hid (pre.length+1<=1000000000):=by unfold Hid;rw[HN.out];omega
 have HVL:=hD hvl;have HVM:=hD hvm;go_wp2_with (at_builtin;go_loud (refine Z0t elOp Z3b Z8p rfl (.tmp 5) (.tmp 7) rfl (.slice A n c) pre rfl HOX.out (Nat.zero_le _) (W.heap.size+1) 1 x rfl (Row1.made' (by simp) _ x.cells) HP1.out (by decide) ?_;intro A4 c4 w4 hown4 hgr4 hwh4;rw[HLN.out]at hown4 hwh4 ⊢;have HR4:=HRX.out.grown hgr4 (fun e=>HVL.out e.symm);have HM4:=hD (HMX.out.grown hgr4 (fun e=>HVM.out e.symm));have v40:w4.cell? ⟨bl,0,none⟩=some (.slice A n c):=HR4.cell 0;have vf0:w4.frozen? ⟨bl,0,none⟩=false:=HR4.soft 0;have v41:w4.cell? ⟨bm,0,none⟩=some (.int .i64 most):=HM4.out.cell 0;have HR4:=hD HR4;have HO4:=hD hown4;have HG4:=hD hgr4;have HW4:=hD hwh4;clear hown4 hgr4 hwh4));go_ret;refine⟨?_,fun i=>G i\/W.heap.size<=i,?_,?_⟩
 ·try simp only[Int.natCast_add,Int.natCast_one]
  rfl
 ·have hw2:((W.alloc (.cells #[.int .i64 x.id,.int .i64 x.proc,.int .i64 x.object,.int .i64 x.kind,.int .i64 x.method,.int .i64 x.arg,.int .i64 x.second,.bool x.done,.int .i64 x.result,.int .i64 x.invoke,.int .i64 x.ret] 32)).alloc (.cells #[.int .i64 x.id,.int .i64 x.proc,.int .i64 x.object,.int .i64 x.kind,.int .i64 x.method,.int .i64 x.arg,.int .i64 x.second,.bool x.done,.int .i64 x.result,.int .i64 x.invoke,.int .i64 x.ret] 32)).heap.size=W.heap.size+2:=by simp
  have hG:∀k,(Value.slice A4 (n+1) c4).ownBlock=some k->(G k\/W.heap.size<=k)/\k≠bl:=fun k hk=>by
   rcases HW4.out k hk with q | q
   ·exact⟨.inl (HK.out k q),fun e=>HVL.out (e▸q)⟩
   ·rw[hw2]at q;exact⟨.inr (by omega),by omega⟩
  have ho:Only (fun i=>i=bl) w4 (w4.setCell ⟨bl,0,none⟩ (.slice A4 (n+1) c4)):=Only.setCell (F:=fun i=>i=bl) (p:=⟨bl,0,none⟩) Only.refl (.inl rfl) _;refine⟨⟨A4,c4,?_,?_,?_⟩,ho.row HM4.out (Ne.symm hne),.inl HGL.out,.inl HGM.out⟩
  ·rw[HLN.out];exact HO4.out.only ho (fun k hk=>(hG k hk).2)
  ·rw[HLN.out];exact HR4.out.set 0 _
  ·rw[HLN.out];exact fun k hk=>(hG k hk).1
 ·exact⟨(((Only.of HX2.out).trans (Only.grown HG4.out) (fun i q=> .inl (HK.out i q))).setCell (p:=⟨bl,0,none⟩) (.inl HGL.out) _),fun i q=>q⟩
def kvW(way:Nat)(o:OpD):KV:=(wayK way o,recW way o)
theorem V1i{way:Nat}{l:List OpD}:∀(L:List KV),(∀x∈L,∃o∈l,x=kvW way o)->∃os:List OpD,L=os.map (kvW way)/\∀o∈os,o∈l
 | [],_=>⟨[],rfl,fun _ h=>by cases h⟩
 | x::r,h=>by
   obtain⟨o,ho,rfl⟩:=h x List.mem_cons_self;obtain⟨os,h1,h2⟩:=V1i r (fun y hy=>h y (List.mem_cons_of_mem _ hy));exact⟨o::os,by rw[h1];rfl,fun a ha=>by
    rcases List.mem_cons.1 ha with rfl | ha
    ·exact ho
    ·exact h2 a ha⟩
structure Finds (Ts:Nat->TrD) (way:Nat) (front:ByteArray) (l all:List OpD) (k:Nat):Prop where
 outs:Z1b (Ts way).list front=all.map (kvW way)
 mem:∀o∈all,o∈l
 under:∀i (h:i<all.length),i<k->Z4k (wayK way all[i]) front=true
 stop:∀h:k<all.length,Z4k (wayK way all[k]) front=false
 le:k<=all.length
theorem Y3c{α:Type}(p:α->Bool):∀l:List α,∃k,k<=l.length/\(∀i (h:i<l.length),i<k->p l[i]=true)/\∀h:k<l.length,p l[k]=false
 | []=>⟨0,aF _,fun i h=>absurd h (by simp),fun h=>absurd h (by simp)⟩
 | a::r=>by
   cases hp:p a with
   | false=>exact⟨0,by simp,fun i h q=>absurd q (by omega),fun _=>by simpa using hp⟩
   | true=>
     obtain⟨k,h1,h2,h3⟩:=Y3c p r;refine⟨k+1,by simp;omega,fun i h q=> ?_,fun h=> ?_⟩
     ·cases i with
      | zero=>simpa using hp
      | succ i=>simpa using h2 i (by simpa using h) (by omega)
     ·simpa using h3 (by simpa using h)
attribute [local go_sem] Oper.semAt_some
theorem X8o(p q:Tmp)(u v:Value)(t:Array Value):(#[p,q].zip #[u,v]).foldl (fun t (p,v)=>t.setIfInBounds p v) t=(t.setIfInBounds p u).setIfInBounds q v:=by simp
theorem Y8g:∀ {l:List OpD} (_:l.Pairwise (fun a b=>a.id≠b.id)) {o:OpD} (_:o∈l),getL l o.id=some o
 | [],_,_,h=>by cases h
 | a::r,hp,o,h=>by
   unfold getL;rw[List.find?_cons];rcases List.mem_cons.1 h with rfl | h
   ·simp
   ·have:=(List.pairwise_cons.1 hp).1 o h;rw[show (a.id==o.id)=false by simpa using this];exact Y8g (List.pairwise_cons.1 hp).2 h
theorem V2n{motive:Act->Prop}{a:Act}(h:∀a0,a0=a->motive a0):motive a:=h a rfl
theorem X6f{w:World}{base:Nat}{v:Value}{way:Nat}{o:OpD}(h:OwnL w base 3 1 encN v (wayL way o)):∃sb cap q,v= .slice (some ⟨sb,0,none⟩) (q+1) cap/\q<3/\base<=sb/\sb<w.heap.size/\w.cell? ⟨sb,q,none⟩=some (.int .i64 o.id):=by
 have hw:=Z2u way o;obtain⟨g,cap,spare,rfl,hbg,hr,h4⟩:=h.row (by omega);have hlt:=h.lt g rfl;obtain⟨q,hq⟩:∃q,(wayL way o).length=q+1:=⟨(wayL way o).length-1,by omega⟩;refine⟨g,cap,q,by rw[hq],by omega,hlt.1,hlt.2,?_⟩;have hl:(wayL way o)[q]? =some o.id:=by have:=Z4b way o;rw[List.getLast?_eq_getElem?,hq]at this;exact this
 rw[hr.cell q,aL (by rw[Z0r Z0f,hq];omega)];have:=Z2y encN 1 Z0f (wayL way o) q o.id hl 0 (.int .i64 o.id) rfl;rwa [Nat.mul_one,Nat.add_zero]at this
structure FRows (tb p:Nat) (ts:Nat->Nat) (bt bw bs by_ bl bm way:Nat) (begin:ByteArray) (T:Nat->Prop) (W:World):Prop where
 row:X1f W tb ts
 tree:∀j,j<5->Z0b W (ts j) p j
 rt:Row1 W bt 26 [tp tb]
 rw_:Row1 W bw 3 [.int .i64 (way:Nat)]
 rs:Row1 W bs 9 [.string begin]
 ry:Row1 W by_ 46 [.func (.func 66) #[] #[.pointer (some ⟨bl,0,none⟩),.pointer (some ⟨bm,0,none⟩)]]
 t1:T tb
 t2:∀j,j<5->T (ts j)
 t3:T bt/\T bw/\T bs/\T by_
theorem FRows.only{tb p:Nat}{ts:Nat->Nat}{bt bw bs by_ bl bm way:Nat}{begin:ByteArray}{T G:Nat->Prop}{W W':World}(h:FRows tb p ts bt bw bs by_ bl bm way begin T W)(ho:Only G W W')(hG:∀i,T i->¬G i):FRows tb p ts bt bw bs by_ bl bm way begin T W':=
 ⟨ho.row h.row (hG _ h.t1),fun j hj=>ho.row (h.tree j hj) (hG _ (h.t2 j hj)),ho.row h.rt (hG _ h.t3.1),ho.row h.rw_ (hG _ h.t3.2.1),ho.row h.rs (hG _ h.t3.2.2.1),ho.row h.ry (hG _ h.t3.2.2.2),h.t1,h.t2,h.t3⟩
theorem FRows.tbl{tb p:Nat}{ts:Nat->Nat}{bt bw bs by_ bl bm way:Nat}{begin:ByteArray}{T F:Nat->Prop}{W:World}(h:FRows tb p ts bt bw bs by_ bl bm way begin T W)(hF:∀i,T i->¬F i):TblAt W tb p ts F:=
 ⟨h.row,h.tree,hF _ h.t1,fun j hj=>hF _ (h.t2 j hj)⟩
theorem FJ.only{bl bm:Nat}{most:Int}{pre:List OpD}{G H:Nat->Prop}{W W':World}(h:FJ bl bm most pre G W)(ho:Only H W W')(hH:∀i,G i->¬H i):FJ bl bm most pre G W':=by obtain⟨A,c,h1,h2,h3⟩:=h.list;exact⟨⟨A,c,h1.only ho (fun k hk=>hH k (h3 k hk)),ho.row h2 (hH _ h.gl),h3⟩,ho.row h.most (hH _ h.gm),h.gl,h.gm⟩
def FI(tb p:Nat)(ts:Nat->Nat)(bt bw bs by_ bl bm way:Nat)(begin:ByteArray)(T:Nat->Prop)(most:Int)(all:List OpD)(k:Nat)(pre:List KV)(G:Nat->Prop)(W:World):Prop:=
 ∃Gc:Nat->Prop,G=(fun i=>Gc i\/T i)/\(∀i,T i->¬Gc i)/\pre=(all.take pre.length).map (kvW way)/\pre.length<=k/\(pre.length<=all.length/\(pre.length:Int)<most)/\
  FRows tb p ts bt bw bs by_ bl bm way begin T W/\FJ bl bm most (all.take pre.length) Gc W
theorem FI.abides{tb p:Nat}{ts:Nat->Nat}{bt bw bs by_ bl bm way:Nat}{begin:ByteArray}{T:Nat->Prop}{most:Int}{all:List OpD}{k:Nat}:Z2c (FI tb p ts bt bw bs by_ bl bm way begin T most all k):=by rintro s G W W' ⟨Gc,rfl,h1,h2,h3,h4,h5,h6⟩ hlt ho;exact⟨Gc,rfl,h1,h2,h3,h4,h5.only ho (fun i q r=>r (.inr q)),h6.only ho (fun i q r=>r (.inl q))⟩
def FX(tb p:Nat)(ts:Nat->Nat)(bt bw bs by_ bl bm way:Nat)(begin:ByteArray)(T:Nat->Prop)(most:Int)(all:List OpD)(k:Nat)(G:Nat->Prop)(W:World):Prop:=
 ∃(Gc:Nat->Prop) (j:Nat),G=(fun i=>Gc i\/T i)/\(∀i,T i->¬Gc i)/\j<=k/\j<=all.length/\((j=k\/most<=(j:Int))/\(j:Int)<=most)/\
  FRows tb p ts bt bw bs by_ bl bm way begin T W/\FJ bl bm most (all.take j) Gc W
theorem FX.abides{tb p:Nat}{ts:Nat->Nat}{bt bw bs by_ bl bm way:Nat}{begin:ByteArray}{T:Nat->Prop}{most:Int}{all:List OpD}{k:Nat}(s:List KV)(G:Nat->Prop)(W W':World)(h:FX tb p ts bt bw bs by_ bl bm way begin T most all k G W)(ho:Only (fun i=>¬G i) W W'):FX tb p ts bt bw bs by_ bl bm way begin T most all k G W':=by obtain⟨Gc,j,rfl,h1,h2,h3,h4,h5,h6⟩:=h;exact⟨Gc,j,rfl,h1,h2,h3,h4,h5.only ho (fun i q r=>r (.inr q)),h6.only ho (fun i q r=>r (.inl q))⟩
theorem FRows.keeps{tb p:Nat}{ts:Nat->Nat}{bt bw bs by_ bl bm way:Nat}{begin:ByteArray}{T F0 F1 Gc Gc1:Nat->Prop}{W0 W:World}(h1:FRows tb p ts bt bw bs by_ bl bm way begin T W0)(h2:FRows tb p ts bt bw bs by_ bl bm way begin T W)
 (hT:∀i,T i->i=tb\/(∃j,j<5/\i=ts j)\/i=bt\/i=bw\/i=bs\/i=by_)(hF:∀i,T i->¬F1 i/\¬Gc1 i)(hk:Keeps (Un F0 (fun i=>Gc i\/T i)) (Un F1 (fun i=>Gc1 i\/T i)) W0 W):Keeps (Un F0 Gc) (Un F1 Gc1) W0 W:=by
 have hb:∀i,T i->W.heap[i]? =W0.heap[i]? :=fun i q=>by
  rcases hT i q with rfl | ⟨j,hj,rfl⟩ | rfl | rfl | rfl | rfl
  ·exact h2.row.trans h1.row.symm
  ·exact(h2.tree j hj).trans (h1.tree j hj).symm
  ·exact h2.rt.trans h1.rt.symm
  ·exact h2.rw_.trans h1.rw_.symm
  ·exact h2.rs.trans h1.rs.symm
  ·exact h2.ry.trans h1.ry.symm
 refine⟨⟨hk.only.os,hk.only.tape,hk.only.output,hk.only.size,fun i hi hn=> ?_⟩,fun i q=> ?_⟩
 ·by_cases ht:T i
  ·exact hb i ht
  ·exact hk.only.block i hi (fun r=>by
    rcases r with r | r | r
    ·exact hn (.inl r)
    ·exact hn (.inr r)
    ·exact ht r)
 ·have hnT:¬T i:=fun r=>by
   rcases q with q | q
   ·exact(hF i r).1 q
   ·exact(hF i r).2 q
  rcases hk.new i (q.elim .inl (fun q=> .inr (.inl q)))with (r | r | r) | r
  ·exact .inl (.inl r)
  ·exact .inl (.inr r)
  ·exact absurd r hnT
  ·exact .inr r
end
section
open Go.RowKit
def T1(tb:Nat)(ts:Nat->Nat)(bt:Nat):Nat->Prop:=fun i=>i=tb\/(∃j,j<5/\i=ts j)\/i=bt
section
variable (tb p:Nat) (ts:Nat->Nat) (bt bs by_ fb kb l way:Nat) (begin:ByteArray) (J Jx:List OpD->(Nat->Prop)->World->Prop) (all:List OpD) (k:Nat)
end
section
variable {tb p:Nat} {ts:Nat->Nat} {bt bs by_ fb kb l way:Nat} {begin:ByteArray} {J Jx:List OpD->(Nat->Prop)->World->Prop} {all:List OpD} {k:Nat}
end
theorem X9h(a b:List UInt8):Z4k (bts a) (bts b)=true↔b <+: a:=by rw[X5y,List.isPrefixOf_iff_prefix]
section
variable {S:StoreD} {Ts:Nat->TrD} {l all:List OpD} {way k:Nat} {fr:List UInt8}
end
theorem V6u:∀(a b:List Int),a <+: b->keyL a <+: keyL b:=fun a b ⟨r,h⟩=>⟨keyL r,by rw[<-h];unfold keyL;rw[aH]⟩
def goR(way:Nat)(fl:List Int)(hi:Int)(o:OpD):Bool:=Z4k (wayK way o) (bts (keyL fl))&&(match (wayL way o)[fl.length]? with | some x=>decide (x<=hi) | none=>false)
structure Ranges (Ts:Nat->TrD) (way:Nat) (fl:List Int) (lo hi:Int) (l all:List OpD) (k:Nat):Prop where
 outs:Z1b (Ts way).list (bts (keyL (fl++ [lo])))=all.map (kvW way)
 mem:∀o∈all,o∈l
 under:∀i (h:i<all.length),i<k->goR way fl hi all[i]=true
 stop:∀h:k<all.length,goR way fl hi all[k]=false
 le:k<=all.length
theorem Tab.ranges{S:StoreD}{Ts:Nat->TrD}{l:List OpD}{way:Nat}(h:Tab S Ts (fun _=>l))(hw:way<5)(fl:List Int)(lo hi:Int):∃all k,Ranges Ts way fl lo hi l all k:=by
 obtain⟨all,h1,h2⟩:=V1i (way:=way) (l:=l) (Z1b (Ts way).list (bts (keyL (fl++ [lo])))) (fun x hx=>by
  obtain⟨o,ho,e⟩:=(h.mem way hw x).1 ((List.mem_filter.1 hx).1);exact⟨o,ho,e⟩)
 obtain⟨k,h3,h4,h5⟩:=Y3c (fun o=>goR way fl hi o) all;exact⟨all,k,h1,h2,h4,h5,h3⟩
def RT(tb:Nat)(ts:Nat->Nat)(bt bh bn bo by_:Nat):Nat->Prop:=fun i=>i=tb\/(∃j,j<5/\i=ts j)\/i=bt\/i=bh\/i=bn\/i=bo\/i=by_
structure RRows (tb p:Nat) (ts:Nat->Nat) (bt bh bn bo by_:Nat) (head:ByteArray) (n:Nat) (hi:Int) (yv:Value) (W:World):Prop where
 row:X1f W tb ts
 tree:∀j,j<5->Z0b W (ts j) p j
 rt:Row1 W bt 26 [tp tb]
 rh:Row1 W bh 9 [.string head]
 rn:Row1 W bn 3 [.int .i64 n]
 ro:Row1 W bo 3 [.int .i64 hi]
 ry:Row1 W by_ 46 [yv]
section
variable {tb p:Nat} {ts:Nat->Nat} {bt bh bn bo by_ way:Nat} {head:ByteArray} {n:Nat} {hi:Int} {yv:Value}
theorem RRows.only{G:Nat->Prop}{W W':World}(h:RRows tb p ts bt bh bn bo by_ head n hi yv W)(ho:Only G W W')(hG:∀i,RT tb ts bt bh bn bo by_ i->¬G i):RRows tb p ts bt bh bn bo by_ head n hi yv W':=
 ⟨ho.row h.row (hG _ (.inl rfl)),fun j hj=>ho.row (h.tree j hj) (hG _ (.inr (.inl ⟨j,hj,rfl⟩))),ho.row h.rt (hG _ (.inr (.inr (.inl rfl)))),ho.row h.rh (hG _ (.inr (.inr (.inr (.inl rfl))))),ho.row h.rn (hG _ (.inr (.inr (.inr (.inr (.inl rfl)))))),ho.row h.ro (hG _ (.inr (.inr (.inr (.inr (.inr (.inl rfl))))))),ho.row h.ry (hG _ (.inr (.inr (.inr (.inr (.inr (.inr rfl)))))))⟩
theorem RRows.tbl{F:Nat->Prop}{W:World}(h:RRows tb p ts bt bh bn bo by_ head n hi yv W)(hF:∀i,RT tb ts bt bh bn bo by_ i->¬F i):TblAt W tb p ts F:=⟨h.row,h.tree,hF _ (.inl rfl),fun j hj=>hF _ (.inr (.inl ⟨j,hj,rfl⟩))⟩
theorem RRows.keeps{F0 F1 Gc Gc1:Nat->Prop}{W0 W:World}(h1:RRows tb p ts bt bh bn bo by_ head n hi yv W0)(h2:RRows tb p ts bt bh bn bo by_ head n hi yv W)
 (hF:∀i,RT tb ts bt bh bn bo by_ i->¬F1 i/\¬Gc1 i)(hk:Keeps (Un F0 (fun i=>Gc i\/RT tb ts bt bh bn bo by_ i)) (Un F1 (fun i=>Gc1 i\/RT tb ts bt bh bn bo by_ i)) W0 W):Keeps (Un F0 Gc) (Un F1 Gc1) W0 W:=by
 have hb:∀i,RT tb ts bt bh bn bo by_ i->W.heap[i]? =W0.heap[i]? :=fun i q=>by
  rcases q with rfl | ⟨j,hj,rfl⟩ | rfl | rfl | rfl | rfl | rfl
  ·exact h2.row.trans h1.row.symm
  ·exact(h2.tree j hj).trans (h1.tree j hj).symm
  ·exact h2.rt.trans h1.rt.symm
  ·exact h2.rh.trans h1.rh.symm
  ·exact h2.rn.trans h1.rn.symm
  ·exact h2.ro.trans h1.ro.symm
  ·exact h2.ry.trans h1.ry.symm
 refine⟨⟨hk.only.os,hk.only.tape,hk.only.output,hk.only.size,fun i hi hn=> ?_⟩,fun i q=> ?_⟩
 ·by_cases ht:RT tb ts bt bh bn bo by_ i
  ·exact hb i ht
  ·exact hk.only.block i hi (fun r=>by
    rcases r with r | r | r
    ·exact hn (.inl r)
    ·exact hn (.inr r)
    ·exact ht r)
 ·have hnT:¬RT tb ts bt bh bn bo by_ i:=fun r=>by
   rcases q with q | q
   ·exact(hF i r).1 q
   ·exact(hF i r).2 q
  rcases hk.new i (q.elim .inl (fun q=> .inr (.inl q)))with (r | r | r) | r
  ·exact .inl (.inl r)
  ·exact .inl (.inr r)
  ·exact absurd r hnT
  ·exact .inr r
theorem V5i{K F1 F7 Gc1 G9:Nat->Prop}{S:StoreD}{W w6 w8 w9:World}(hw:way<5)(hx:Ext W w6)(hit:ItT p (ts way) way S K F1 W)(hdd:Dis F1 (fun i=>Gc1 i\/RT tb ts bt bh bn bo by_ i) W)(hg1:∀i,RT tb ts bt bh bn bo by_ i->¬Gc1 i)
 (hk:Keeps F1 F7 w6 w8)(hp8:PagerAt w8 p F7 S)(hf8:RRows tb p ts bt bh bn bo by_ head n hi yv w8)(hk9:Keeps Gc1 G9 w8 w9)(hl9:∀i,G9 i->i<w9.heap.size):
  ∃F8:Nat->Prop,ItT p (ts way) way S K F8 w9/\Dis F8 (fun i=>G9 i\/RT tb ts bt bh bn bo by_ i) w9/\Keeps (Un F1 (fun i=>Gc1 i\/RT tb ts bt bh bn bo by_ i)) (Un F8 (fun i=>G9 i\/RT tb ts bt bh bn bo by_ i)) W w9/\(∀i,RT tb ts bt bh bn bo by_ i->¬G9 i)/\RRows tb p ts bt bh bn bo by_ head n hi yv w9:=by
 have z1:=hx.size;have z2:=hk.only.size;have z3:=hk9.only.size;have hGF:∀i,Gc1 i->¬F7 i:=fun i q=>hk.out (by have:=(hdd.2 i (.inl q)).1;omega) (hdd.2 i (.inl q)).2;have hTF:∀i,RT tb ts bt bh bn bo by_ i->i<W.heap.size/\¬F7 i:=fun i q=>⟨(hdd.2 i (.inr q)).1,hk.out (by have:=(hdd.2 i (.inr q)).1;omega) (hdd.2 i (.inr q)).2⟩;refine⟨fun i=>F7 i/\i<w8.heap.size,⟨hp8.shrink.only hk9.only (fun i q r=>hGF i r q.1),(hf8.only hk9.only hg1).tree way hw,fun q=>(hTF _ (.inr (.inl ⟨way,hw,rfl⟩))).2 q.1,fun b q=> ?_⟩,⟨fun i q=>by omega,fun i q=> ?_⟩,⟨?_,fun i q=> ?_⟩,fun i q r=>hk9.out (by have:=(hTF i q).1;omega) (hg1 i q) r,hf8.only hk9.only hg1⟩
 ·have:=hit.2.2.2 b q;exact⟨fun r=>hk.out (by omega) this.1 r.1,by omega⟩
 ·rcases q with q | q
  ·refine⟨hl9 i q,fun r=> ?_⟩;rcases hk9.new i q with s | s
   ·exact hGF i s r.1
   ·omega
  ·exact⟨by have:=(hTF i q).1;omega,fun r=>(hTF i q).2 r.1⟩
 ·exact((Only.of hx).trans hk.only (fun i q=> .inl (.inl q))).trans hk9.only (fun i q=> .inl (.inr (.inl q)))
 ·rcases q with q | q | q
  ·rcases hk.new i q.1 with s | s
   ·exact .inl (.inl s)
   ·exact .inr (by omega)
  ·rcases hk9.new i q with s | s
   ·exact .inl (.inr (.inl s))
   ·exact .inr (by omega)
  ·exact .inl (.inr (.inr q))
end
structure YPost (J Jx:List OpD->(Nat->Prop)->World->Prop) (pre:List OpD) (G:Nat->Prop) (W:World) (b:Bool) (W':World):Prop where
 ex:∃G2:Nat->Prop,(b=true->J pre G2 W')/\(b=false->Jx pre G2 W')/\Keeps G G2 W W'/\∀i,G2 i->i<W'.heap.size
section
variable (tb p:Nat) (ts:Nat->Nat) (bt bh bn bo by_ way:Nat) (head:ByteArray) (n:Nat) (hi:Int) (yv:Value) (J Jx:List OpD->(Nat->Prop)->World->Prop) (all:List OpD) (k:Nat)
def RgI(pre:List KV)(G:Nat->Prop)(W:World):Prop:=
 ∃Gc:Nat->Prop,G=(fun i=>Gc i\/RT tb ts bt bh bn bo by_ i)/\(∀i,RT tb ts bt bh bn bo by_ i->¬Gc i)/\pre=(all.take pre.length).map (kvW way)/\pre.length<=k/\pre.length<=all.length/\RRows tb p ts bt bh bn bo by_ head n hi yv W/\J (all.take pre.length) Gc W
def RgX(G:Nat->Prop)(W:World):Prop:=
 ∃(Gc:Nat->Prop) (j:Nat),G=(fun i=>Gc i\/RT tb ts bt bh bn bo by_ i)/\(∀i,RT tb ts bt bh bn bo by_ i->¬Gc i)/\j<=k/\j<=all.length/\RRows tb p ts bt bh bn bo by_ head n hi yv W/\((j=k/\J (all.take j) Gc W)\/Jx (all.take j) Gc W)
end
section
variable {tb p:Nat} {ts:Nat->Nat} {bt bh bn bo by_ way:Nat} {head:ByteArray} {n:Nat} {hi:Int} {yv:Value} {J Jx:List OpD->(Nat->Prop)->World->Prop} {all:List OpD} {k:Nat}
theorem RgI.abides(hJ:Z2c J):Z2c (RgI tb p ts bt bh bn bo by_ way head n hi yv J all k):=by rintro s G W W' ⟨Gc,rfl,h1,h2,h3,h4,h5,h6⟩ hlt ho;exact⟨Gc,rfl,h1,h2,h3,h4,h5.only ho (fun i q r=>r (.inr q)),hJ _ _ _ _ h6 (fun i q=>hlt i (.inl q)) (ho.mono (fun i q=> .inl (fun r=>q (.inl r))))⟩
theorem RgX.abides(hJ:Z2c J)(hJx:Z2c Jx)(G:Nat->Prop)(W W':World)(h:RgX tb p ts bt bh bn bo by_ head n hi yv J Jx all k G W)(hlt:∀i,G i->i<W.heap.size)(ho:Only (fun i=>¬G i) W W'):RgX tb p ts bt bh bn bo by_ head n hi yv J Jx all k G W':=by
 obtain⟨Gc,j,rfl,h1,h2,h3,h4,h5⟩:=h;have ho':Only (fun i=>¬Gc i) W W':=ho.mono (fun i q=> .inl (fun r=>q (.inl r)));refine⟨Gc,j,rfl,h1,h2,h3,h4.only ho (fun i q r=>r (.inr q)),?_⟩;rcases h5 with ⟨q1,q2⟩ | q
 ·exact .inl ⟨q1,hJ _ _ _ _ q2 (fun i q=>hlt i (.inl q)) ho'⟩
 ·exact .inr (hJx _ _ _ _ q (fun i q=>hlt i (.inl q)) ho')
end
theorem X1p{w:World}{base:Nat}{v:Value}{way:Nat}{o:OpD}(h:OwnL w base 3 1 encN v (wayL way o)):∃sb cap q,v= .slice (some ⟨sb,0,none⟩) (q+1) cap/\q<3/\(wayL way o).length=q+1/\base<=sb/\sb<w.heap.size/\w.cell? ⟨sb,q,none⟩=some (.int .i64 o.id)/\∀i x,(wayL way o)[i]? =some x->w.cell? ⟨sb,i,none⟩=some (.int .i64 x):=by
 have hw:=Z2u way o;obtain⟨g,cap,spare,rfl,hbg,hr,h4⟩:=h.row (by omega);have hlt:=h.lt g rfl;obtain⟨q,hq⟩:∃q,(wayL way o).length=q+1:=⟨(wayL way o).length-1,by omega⟩;have hc:∀i x,(wayL way o)[i]? =some x->w.cell? ⟨g,i,none⟩=some (.int .i64 x):=fun i x hx=>by
  have hi:i<(wayL way o).length:=by have:=aC.1 hx;exact this.1
  rw[hr.cell i,aL (by rw[Z0r Z0f];omega)];have:=Z2y encN 1 Z0f (wayL way o) i x hx 0 (.int .i64 x) rfl;rwa [Nat.mul_one,Nat.add_zero]at this
 refine⟨g,cap,q,by rw[hq],by omega,hq,hlt.1,hlt.2,hc q _ ?_,hc⟩;have:=Z4b way o;rw[List.getLast?_eq_getElem?,hq]at this;exact this
structure PJ (bl:Nat) (pre:List OpD) (G:Nat->Prop) (W:World):Prop where
 list:∃A c,OwnL W 0 32 11 OpD.cells (.slice A pre.length c) pre/\Row1 W bl 30 [.slice A pre.length c]/\∀k,(Value.slice A pre.length c).ownBlock=some k->G k
 gl:G bl
theorem PJ.only{bl:Nat}{pre:List OpD}{G H:Nat->Prop}{W W':World}(h:PJ bl pre G W)(ho:Only H W W')(hH:∀i,G i->¬H i):PJ bl pre G W':=by obtain⟨A,c,h1,h2,h3⟩:=h.list;exact⟨⟨A,c,h1.only ho (fun k hk=>hH k (h3 k hk)),ho.row h2 (hH _ h.gl),h3⟩,h.gl⟩
theorem PJ.abides{bl:Nat}:Z2c (PJ bl):=fun s G W W' h _ ho=>h.only ho (fun i q r=>r q)
def PX(bl:Nat)(pre:List OpD)(G:Nat->Prop)(W:World):Prop:=PJ bl pre G W/\1000<=pre.length
theorem PX.abides{bl:Nat}:Z2c (PX bl):=fun s G W W' h hl ho=>⟨PJ.abides s G W W' h.1 hl ho,h.2⟩
end
end Go.Proofs.YtmiolpfanlpfnaaGreat
