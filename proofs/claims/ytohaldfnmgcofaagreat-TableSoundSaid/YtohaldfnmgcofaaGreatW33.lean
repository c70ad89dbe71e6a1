/- A visitor goes through a tree in order, at any depth. Conditions: pages that bear a tree. -/
import Derived.Test.YtohaldfnmgcofaaGreatW32
import Derived.Test.YtohaldfnmgcofaaGreatW30
set_option maxRecDepth 100000
set_option maxHeartbeats 4000000
set_option linter.unusedSimpArgs false
set_option linter.unusedVariables false
namespace Go.Proofs.YtohaldfnmgcofaaGreat
open Go.RowKit
theorem V1x{ks vs:List ByteArray}(hl:vs.length=ks.length)(last:ByteArray):Y1k ks last ks.length=Z8u (ks.zip vs) last:=by
 unfold Y1k Z8u;rw[List.getLast?_eq_getElem?,List.length_zip,hl,Nat.min_self];by_cases h:ks.length=0
 ·rw[if_pos h,List.getElem?_eq_none (by rw[List.length_zip];omega)];rfl
 ·rw[if_neg h];have h1:ks[ks.length-1]? =some (ks[ks.length-1]'(by omega)):=aB (by omega);have h2:(ks.zip vs)[ks.length-1]? =some (ks[ks.length-1]'(by omega),vs[ks.length-1]'(by omega)):=by rw[List.getElem?_zip_eq_some];exact⟨h1,aB (by omega)⟩
  rw[h1,h2];rfl
theorem X8n{ks vs:List ByteArray}(hl:vs.length=ks.length):decide (0<ks.length)= !(ks.zip vs).isEmpty:=by
 cases ks with
 | nil=>simp
 | cons k r=>cases vs with
   | nil=>simp at hl
   | cons v q=>simp
theorem X5z{tr p i vb mb:Nat}{S:StoreD}(hm:S.head.pages<=1024)(t:TT 0)(deep:Nat)(P:List Nat)(dp:Int)(last low high:ByteArray)(any bound:Bool)(F G:Nat->Prop)(w:World)(hI:VisI tr p i vb mb S P dp last any F G w)(hO:VisOk S 0 t deep P dp last any low high bound):
  Calls Tryz.prog 189 #[.pointer (some ⟨vb,0,none⟩),.int .i64 (atT 0 t),.int .i64 deep,.string low,.string high,.bool bound] w (VisP tr p i vb mb S (P++Z0a 0 t) (deep+0) (Z8u (Z0e 0 t) last) (any || !(Z0e 0 t).isEmpty) F G w):=by
 have hap:=Z0q 0 t;have hgv:=Z0k 0 t hO.on _ hap;obtain⟨k1,k2,k3,k4⟩:=hO.ok;have hlt:∀k∈LeafT.keys t,∃x∈Z0e 0 t,x.1=k:=fun k hk=>by obtain⟨i,hi,e⟩:=List.getElem_of_mem hk;refine⟨((LeafT.keys t)[i],(LeafT.vals t)[i]'(by omega)),?_,e⟩;show _∈(LeafT.keys t).zip (LeafT.vals t);exact List.mem_of_getElem? (List.getElem?_zip_eq_some.2 ⟨aB hi,aB (by omega)⟩)
 refine(Y5s (Z0c 0 t) (atT 0 t) deep P dp last low high any bound w hI hO.on (hO.new _ hap) (by have:=hgv.2.1;omega) (by have:=hO.dep;omega) hO.pos k1 (fun k hk=>⟨hO.lows k hk,fun hb=>hO.highs hb k hk,(k3 k hk).1,(k3 k hk).2⟩)
  (fun _=>⟨hO.dpt,fun ha k hk=>by obtain⟨x,hx,rfl⟩:=hlt k hk;exact hO.lasts ha x hx,k2,k4⟩) (fun _=>P++ [atT 0 t]) (fun _=>dp) (fun _=>last) (fun _=>any) ⟨rfl,rfl,rfl,rfl⟩ (fun h=>by cases h)).mono ?_
 rintro e w' ⟨hv,P',dp',last',any',F',G',h,hi,hk⟩;refine⟨hv,F',G',?_,hk⟩;rcases h with ⟨_,rfl,rfl,rfl,rfl⟩ | ⟨h,_⟩
 ·have e1:Z8u (Z0e 0 t) last=Y1k (Z0c 0 t).keys last (Z0c 0 t).keys.length:=(V1x k2 last).symm;have e2:(!(Z0e 0 t).isEmpty)=decide (0<(Z0c 0 t).keys.length):=(X8n k2).symm;rw[e1,e2];exact hi
 ·cases h
def Y8f{d:Nat}(t:TT (d+1))(P:List Nat)(j:Nat):List Nat:=P++InT.at_ t::((InT.kids t).take j).flatMap (Z0a d)
def Z3g{d:Nat}(t:TT (d+1))(j:Nat):List KV:=((InT.kids t).take j).flatMap (Z0e d)
theorem Y9h{α β:Type}{f:α->List β}{l:List α}{j:Nat}{c:α}(h:l[j]? =some c):(l.take (j+1)).flatMap f=(l.take j).flatMap f++f c:=by rw[List.take_add_one,h,aH];simp
theorem V4s{S:StoreD}{d:Nat}{t:TT (d+1)}{deep j:Nat}{P:List Nat}{dp:Int}{last low high:ByteArray}{any bound:Bool}{c:TT d}(hO:VisOk S (d+1) t deep P dp last any low high bound)(hc:(InT.kids t)[j]? =some c):
  VisOk S d c (deep+1) (Y8f t P j) (if j=0 then dp else((deep+(d+1):Nat):Int)) (Z8u (Z3g t j) last) (any || !(Z3g t j).isEmpty) (lowJ (InT.keys t) low j) (Y2i (InT.keys t) high j) (Z6q (InT.keys t) bound j):=by
 have hcm:c∈InT.kids t:=List.mem_of_getElem? hc;obtain⟨hjl,hce⟩:=aC.1 hc;obtain⟨k1,k2,k3,k4,k5,k6⟩:=hO.ok;obtain⟨n1,n2⟩:=Z1c hO.nd;have sp:=Z2g.1 k5;have hnd:=hO.nd;have hpj:∀b∈Z0a d c,b∈Z0a (d+1) t:=fun b hb=>by show b∈InT.at_ t::(InT.kids t).flatMap (Z0a d);exact List.mem_cons_of_mem _ (List.mem_flatMap.2 ⟨c,hcm,hb⟩)
 have hall:∀x∈allT d c,x∈allT (d+1) t:=fun x hx=>by show x∈InT.keys t++(InT.kids t).flatMap (allT d);exact List.mem_append_right _ (List.mem_flatMap.2 ⟨c,hcm,hx⟩)
 have hsplit:(InT.kids t).flatMap (Z0a d)=((InT.kids t).take j).flatMap (Z0a d)++(Z0a d c++((InT.kids t).drop (j+1)).flatMap (Z0a d)):=by
  have e:InT.kids t=(InT.kids t).take j++c::(InT.kids t).drop (j+1):=by rw[<-hce,List.getElem_cons_drop,List.take_append_drop]
  conv=>lhs;rw[e]
  rw[aH,aI]
 have hsplitL:(InT.kids t).flatMap (Z0e d)=Z3g t j++(Z0e d c++((InT.kids t).drop (j+1)).flatMap (Z0e d)):=by
  have e:InT.kids t=(InT.kids t).take j++c::(InT.kids t).drop (j+1):=by rw[<-hce,List.getElem_cons_drop,List.take_append_drop]
  conv=>lhs;rw[e]
  rw[aH,aI];rfl
 have hrise:Z6u (Z0e (d+1) t):=Z4t (d+1) t hO.ok;refine⟨hO.on.2 c hcm,k4 c hcm,(n1 c hcm).2,fun b hb hbP=> ?_,by omega,by have:=hO.dep;omega,?_,fun x hx=> ?_,fun hb x hx=> ?_,fun ha x hx=> ?_⟩
 ·rcases List.mem_append.1 hbP with q | q
  ·exact hO.new b (hpj b hb) q
  ·have hn:(InT.at_ t::(InT.kids t).flatMap (Z0a d)).Nodup:=hnd;rw[hsplit,List.nodup_cons]at hn;rcases List.mem_cons.1 q with q | q
   ·exact hn.1 (List.mem_append_right _ (List.mem_append_left _ (q▸hb)))
   ·have hn2:=List.nodup_append.1 hn.2;exact hn2.2.2 b q b (List.mem_append_left _ hb) rfl
 ·by_cases h0:j=0
  ·rw[if_pos h0];exact hO.dpt.imp id (fun e=>by rw[e];congr 1;omega)
  ·rw[if_neg h0];right;congr 1;omega
 ·unfold lowJ;by_cases h0:j=0
  ·rw[if_pos h0];exact hO.lows x (hall x hx)
  ·rw[if_neg h0];have hs:(InT.keys t)[j-1]? =some ((InT.keys t)[j-1]'(by omega)):=aB (by omega);rw[hs,Option.getD_some];exact(sp j c hc x hx (j-1) _ hs).1 (by omega)
 ·unfold Y2i;by_cases hjk:j<(InT.keys t).length
  ·have hs:(InT.keys t)[j]? =some ((InT.keys t)[j]):=aB hjk;rw[hs,Option.getD_some];exact(sp j c hc x hx j _ hs).2 (aF _)
  ·rw[List.getElem?_eq_none (by omega),Option.getD_none];have hb':bound=true:=by unfold Z6q at hb;simpa [hjk]using hb
   exact hO.highs hb' x (hall x hx)
 ·have hr2:Z6u (Z3g t j++(Z0e d c++((InT.kids t).drop (j+1)).flatMap (Z0e d))):=by rw[<-hsplitL];exact hrise
  have hr3:=(List.pairwise_append.1 hr2).2.2;cases hk:(Z3g t j).getLast? with
  | none=>
    have he:Z3g t j= []:=List.getLast?_eq_none_iff.1 hk;rw[he]at ha ⊢;have ha':any=true:=by simpa using ha
    refine hO.lasts ha' x ?_;show x∈(InT.kids t).flatMap (Z0e d);exact List.mem_flatMap.2 ⟨c,hcm,hx⟩
  | some y=>
    unfold Z8u;rw[hk];exact hr3 y (List.mem_of_getLast? hk) x (List.mem_append_left _ hx)
theorem X5y{tr p i vb mb:Nat}{S:StoreD}(hm:S.head.pages<=1024):∀(d:Nat) (t:TT d) (deep:Nat) (P:List Nat) (dp:Int) (last low high:ByteArray) (any bound:Bool) (F G:Nat->Prop) (w:World),VisI tr p i vb mb S P dp last any F G w->VisOk S d t deep P dp last any low high bound->
  Calls Tryz.prog 189 #[.pointer (some ⟨vb,0,none⟩),.int .i64 (atT d t),.int .i64 deep,.string low,.string high,.bool bound] w (VisP tr p i vb mb S (P++Z0a d t) (deep+d) (Z8u (Z0e d t) last) (any || !(Z0e d t).isEmpty) F G w):=by
 intro d
 induction d with
 | zero=>intro t deep P dp last low high any bound F G w hI hO;exact X5z hm t deep P dp last low high any bound F G w hI hO
 | succ d ih=>
   intro t deep P dp last low high any bound F G w hI hO;have hap:=Z0q (d+1) t;have hgv:=Z0k (d+1) t hO.on _ hap;obtain⟨k1,k2,k3,k4,k5,k6⟩:=hO.ok;have hsub:∀k∈InT.keys t,k∈allT (d+1) t:=fun k hk=>by show k∈InT.keys t++(InT.kids t).flatMap (allT d);exact List.mem_append_left _ hk
   have hkl:(Z0c (d+1) t).kids.length=(InT.kids t).length:=List.length_map _;have hne:(InT.kids t).length≠0:=by omega
   refine(Y5s (Z0c (d+1) t) (atT (d+1) t) deep P dp last low high any bound w hI hO.on.1 (hO.new _ hap) (by have:=hgv.2.1;omega) (by have:=hO.dep;omega) hO.pos k1 (fun k hk=>⟨hO.lows k (hsub k hk),fun hb=>hO.highs hb k (hsub k hk),(k3 k hk).1,(k3 k hk).2⟩) (fun h=>by cases h)
    (Y8f t P) (fun j=>if j=0 then dp else((deep+(d+1):Nat):Int)) (fun j=>Z8u (Z3g t j) last) (fun j=>any || !(Z3g t j).isEmpty) ⟨by unfold Y8f;simp[atT],rfl,by simp[Z3g,Z8u],by simp[Z3g]⟩ (fun _=>⟨by rw[hkl];exact k2,fun j hj=> ?_⟩)).mono ?_
   ·rw[hkl]at hj;obtain⟨c,hc⟩:∃c,(InT.kids t)[j]? =some c:=⟨_,aB hj⟩;refine⟨atT d c,by show((InT.kids t).map _)[j]? =_;rw[List.getElem?_map,hc];rfl,fun W F2 G2 hI2=> ?_⟩;have h1:=ih c (deep+1) (Y8f t P j) (if j=0 then dp else((deep+(d+1):Nat):Int)) (Z8u (Z3g t j) last) (lowJ (InT.keys t) low j) (Y2i (InT.keys t) high j) (any || !(Z3g t j).isEmpty) (Z6q (InT.keys t) bound j) F2 G2 W hI2 (V4s hO hc);rw[show ((deep+1:Nat):Int)=(deep:Int)+1 by omega]at h1;refine h1.mono ?_;rintro e w' ⟨hv,F',G',hi,hk⟩;refine⟨hv,F',G',?_,hk⟩;have e1:Y8f t P (j+1)=Y8f t P j++Z0a d c:=by unfold Y8f;rw[Y9h hc];simp
    have e2:Z3g t (j+1)=Z3g t j++Z0e d c:=Y9h hc;rw[e1,e2,V1y,if_neg (by omega)];rw[show deep+(d+1)=deep+1+d by omega];rw[show (any || !(Z3g t j++Z0e d c).isEmpty)=(any || !(Z3g t j).isEmpty || !(Z0e d c).isEmpty)by
     cases Z3g t j<;>cases any<;>simp]
    exact hi
   ·rintro e w' ⟨hv,P',dp',last',any',F',G',h,hi,hk⟩;refine⟨hv,F',G',?_,hk⟩;rcases h with ⟨h,_⟩ | ⟨_,rfl,rfl,rfl,rfl⟩
    ·cases h
    ·rw[hkl,if_neg hne]at hi;have e1:Y8f t P (InT.kids t).length=P++Z0a (d+1) t:=by unfold Y8f;rw[List.take_length];rfl
     have e2:Z3g t (InT.kids t).length=Z0e (d+1) t:=by unfold Z3g;rw[List.take_length];rfl
     rw[e1,e2]at hi;exact hi
def depV:TrD->Nat
 | .no=>0
 | .yes d _=>d+1
def U2h(tr p:Nat)(S:StoreD)(T:TrD)(F:Nat->Prop)(w:World)(e:Ending)(w':World):Prop:=
 ∃(vb:Nat) (A:Option Addr) (n c:Nat) (mb:Option Nat) (last:ByteArray) (any:Bool) (F':Nat->Prop),e= .returned (.pointer (some ⟨vb,0,none⟩))/\Y5f w' vb tr (.slice A n c) (.map mb) (depV T) last any/\OwnL w' 0 3 1 encN (.slice A n c) (Z2v T.pages)/\(∀k,(Value.slice A n c).ownBlock=some k->¬F' k)/\PagerAt w' p F' S/\Keeps F F' w w'
theorem V6o:(fun _=>none:Int->Option Bool)=metF []:=by funext x;rfl
theorem X4p{tr p i:Nat}{F:Nat->Prop}{S:StoreD}(T:TrD)(w:World)(ht:Z0b w tr p i)(hnt:¬F tr)(h:PagerAt w p F S)(hi:i<16)(hf:Fm S)(hT:TrS S i T)(hd:T.fine):
  Calls Tryz.prog 145 #[.pointer (some ⟨tr,0,none⟩)] w (U2h tr p S T F w):=by
 have htl:=ht.lt;obtain⟨F0,hF0⟩:∃F0:Nat->Prop,F0=fun i=>F i/\i<w.heap.size:=⟨_,rfl⟩;have hV:∀W',W'=(w.alloc (.map #[] 0)).alloc (.cells #[.pointer (some ⟨tr,0,none⟩),.slice none 0 0,.map (some w.heap.size),.int .i64 0,.string ⟨#[]⟩,.bool false,.bool false] 237)->VisI tr p i (w.heap.size+1) w.heap.size S [] 0 ⟨#[]⟩ false F0 (fun i=>i=w.heap.size\/i=w.heap.size+1) W'/\Ext w W':=by rintro W' rfl;have hx:Ext w ((w.alloc (.map #[] 0)).alloc (.cells #[.pointer (some ⟨tr,0,none⟩),.slice none 0 0,.map (some w.heap.size),.int .i64 0,.string ⟨#[]⟩,.bool false,.bool false] 237)):=(Ext.alloc _ _).trans (Ext.alloc _ _);refine⟨⟨ht.ext hx htl,fun q=>by rw[hF0]at q;exact hnt q.1,fun q=>by rcases q with q | q<;>omega,by rw[hF0];exact PagerAt.ext (F:=fun i=>F i/\i<w.heap.size) h.shrink hx,⟨⟨none,0,0,Row1.made' (by simp) _ _,OwnL.nil _ _ _ _ _,fun k q=>(by cases q)⟩,?_,.inr rfl,.inl rfl,fun b hb=>(by cases hb),List.nodup_nil⟩,⟨fun i q=>by rw[hF0]at q;have:=q.2;simp;omega,fun i q=>⟨(by rcases q with rfl | rfl<;>simp<;>omega),fun r=>(by rw[hF0]at r;have:=r.2;rcases q with rfl | rfl<;>omega)⟩⟩⟩,hx⟩;rw[<-V6o];exact((MapI.made w 3 encT).mono (Nat.zero_le _)).ext (Ext.alloc _ _)
 have HV:=hD hV;have HT:=hD hT;have HWID:Hid (∀(F':Nat->Prop) (W W':World),Ext w W->Keeps F0 F' W W'->Keeps F F' w W'):=fun F' W W' hx hk=>((Keeps.of hx).trans hk).widen (fun i q=>by rw[hF0]at q;exact q.1);have hm:=hf.most;have cR:Hid (∀(W:World) (G:Nat->Prop),VisI tr p i (w.heap.size+1) w.heap.size S [] 0 ⟨#[]⟩ false F0 G W->Calls Tryz.prog 78 #[.pointer (some ⟨tr,0,none⟩)] W fun e w'=>e= .returned (.tuple #[.int .i64 (Z1x S i),.int .i64 0])/\∃F',VisI tr p i (w.heap.size+1) w.heap.size S [] 0 ⟨#[]⟩ false F' G w'/\Keeps F0 F' W w'):=fun W G hI=>by refine(Z4c W hI.tree hI.nf hI.pag hi).mono ?_;rintro e w' ⟨rfl,F',hp,hk⟩;exact⟨rfl,_,hI.call hk.shrink hp.shrink (fun i q=>q.2),hk.shrink⟩
 obtain⟨W2,hW2⟩:∃W2,(w.alloc (.map #[] 0)).alloc (.cells #[.pointer (some ⟨tr,0,none⟩),.slice none 0 0,.map (some w.heap.size),.int .i64 0,.string ⟨#[]⟩,.bool false,.bool false] 237)=W2:=⟨_,rfl⟩;obtain⟨hI2,hx2⟩:=HV.out W2 hW2.symm;have HI2:=hD hI2;have HX2:=hD hx2;have HI:=hD hi;have HHD:=hD hd;clear ht hnt h hF0 hV hf hI2 hx2 hT hi hd;have hmm:= @run_makeMap Tryz.prog;go_enter Tryz.func145,Tryz.ntmps145;go_upto_region 2 with fail;clear hW2;cases T with
 | no=>
   have hr0:Z1x S i=0:=HT.out;have c3:=cR.out W2 _ HI2.out;rw[hr0]at c3;go_wp2_with (go_at_call 78;(with_reducible refine c3.mono ?_);clear c3;rintro e w3 ⟨rfl,F3,hi3,hk3⟩;have HI3:=hD hi3;have HK3:=hD hk3;clear hi3 hk3);go_ret;obtain⟨A,n,c,r1,r2,r3⟩:=HI3.out.vis.ex;exact⟨_,A,n,c,_,_,_,F3,rfl,r1,r2,fun k q=>(HI3.out.dis.2 k (r3 k q)).2,HI3.out.pag,HWID.out _ _ _ HX2.out HK3.out⟩
 | yes d t=>
   obtain⟨y1,y2,y3,y4⟩:=HT.out;have c3:=cR.out W2 _ HI2.out;rw[y1]at c3;have hpos:=(Z0k d t y2 _ (Z0q d t)).1;have hd31:d<31:=HHD.out;have HOK:Hid (VisOk S d t 1 [] 0 ⟨#[]⟩ false ⟨#[]⟩ ⟨#[]⟩ false):=⟨y2,y3,y4,fun b _ q=>(by cases q),by omega,by omega,.inl rfl,fun x _=>V1m x,fun q=>(by cases q),fun q=>(by cases q)⟩;have HM:=hD hm;have cV:Hid (∀(F G:Nat->Prop) (W:World),VisI tr p i (w.heap.size+1) w.heap.size S [] 0 ⟨#[]⟩ false F G W->Calls Tryz.prog 189 #[.pointer (some ⟨w.heap.size+1,0,none⟩),.int .i64 (atT d t),.int .i64 1,.string ⟨#[]⟩,.string ⟨#[]⟩,.bool false] W (VisP tr p i (w.heap.size+1) w.heap.size S ([]++Z0a d t) (1+d) (Z8u (Z0e d t) ⟨#[]⟩) (false || !(Z0e d t).isEmpty) F G W)):=fun F G W hI=>X5y HM.out d t 1 [] 0 ⟨#[]⟩ ⟨#[]⟩ ⟨#[]⟩ false false F G W hI HOK.out;clear y1 y2 y3 y4 hm;obtain⟨a,ha⟩:∃a,atT d t=a:=⟨_,rfl⟩;rw[ha]at c3 cV hpos;have T1:((a:Int)==0)=false:=by simp;omega
   have T2:decide ((a:Int)=0)=false:=aM;have T3:0<a:=by omega
   clear ha;go_wp2_with (first
    | (go_at_call 78;(with_reducible refine c3.mono ?_);clear c3;rintro e w3 ⟨rfl,F3,hi3,hk3⟩;have cV3:=cV.out _ _ _ hi3;have HK3:=hD hk3;clear hi3 hk3)
    | (go_at_call 189;(with_reducible refine cV3.mono ?_);clear cV3;rintro e w4 ⟨⟨v4,rfl⟩,F4,G4,hi4,hk4⟩;have HI4:=hD hi4;have HK4:=hD hk4;clear hi4 hk4))
   go_ret;obtain⟨A,n,c,r1,r2,r3⟩:=HI4.out.vis.ex;have hz:=HX2.out.size;refine⟨_,A,n,c,_,_,_,F4,rfl,by rw[show ((depV (.yes d t):Nat):Int)=((1+d:Nat):Int)by show((d+1:Nat):Int)=_;omega];exact r1,r2,fun k q=>(HI4.out.dis.2 k (r3 k q)).2,HI4.out.pag,?_⟩;have k1:=HWID.out _ _ _ HX2.out HK3.out;refine⟨k1.only.trans HK4.out.only (fun i q=> ?_),fun i q=> ?_⟩
   ·rcases q with q | q | q
    ·exact k1.new i q
    ·exact .inr (by omega)
    ·exact .inr (by omega)
   ·rcases HK4.out.new i (.inl q)with (q | q | q) | q
    ·exact k1.new i q
    ·exact .inr (by omega)
    ·exact .inr (by omega)
    ·exact .inr (by have:=k1.only.size;omega)
theorem Z5d(P:List Nat):(Z2v P).length=P.length:=List.length_map _
theorem V8k{P:List Nat}{j b:Nat}(h:P[j]? =some b):(Z2v P)[j]?.getD 0=(b:Int):=by unfold Z2v;rw[List.getElem?_map,h];rfl
def U2f(S:StoreD)(i:Nat):TrD->StoreD
 | .no=>S
 | .yes d t=>Z6p (Z0p S i 0) (Z0a d t)
theorem X7u(S:StoreD){P:List Nat}{j b:Nat}(h:P[j]? =some b):Z6p S (P.take (j+1))=useP (Z6p S (P.take j)) b false:=by unfold Z6p;rw[List.take_add_one,h];simp
theorem X2n{S:StoreD}{P:List Nat}{j b:Nat}(hf:FullV S)(hg:∀b∈P,Z0r S b)(hm:S.head.pages<=1024)(hn:P.Nodup)(h:P[j]? =some b):Z0r (Z6p S (P.take j)) b:=by have hb:=List.mem_of_getElem? h;have h1:=Y4q (P.take j) hf (fun b q=>by have:=(hg b (List.mem_of_mem_take q)).2.1;omega);have h2:=hg b hb;refine⟨h2.1,by rw[h1.head];exact h2.2.1,(h1.used _).2 ⟨.inl h2.2.2,fun q=> ?_⟩⟩;obtain⟨hj,e⟩:=aC.1 h;obtain⟨k,hk,e2⟩:=List.mem_iff_getElem.1 q;rw[aD]at hk;rw[List.getElem_take]at e2;exact(List.pairwise_iff_getElem.1 hn) k j (by omega) hj (by omega) (by rw[e2,e])
theorem Y9v{tr p i:Nat}{F:Nat->Prop}{S:StoreD}(T:TrD)(w:World)(ht:Z0b w tr p i)(hnt:¬F tr)(h:PagerAt w p F S)(hi:i<16)(hf:Fm S)(hT:TrS S i T)(hd:T.fine):
  Calls Tryz.prog 99 #[.pointer (some ⟨tr,0,none⟩)] w fun e w'=>∃(A:Option Addr) (c:Nat) (F':Nat->Prop),e= .returned (.slice A T.pages.length c)/\OwnL w' 0 3 1 encN (.slice A T.pages.length c) (Z2v T.pages)/\(∀k,(Value.slice A T.pages.length c).ownBlock=some k->¬F' k)/\PagerAt w' p F' S/\Keeps F F' w w':=by
 have cL:=X4p T w ht hnt h hi hf hT hd;clear ht hnt h hf hT hd;go_enter Tryz.func99,Tryz.ntmps99;go_wp2_with (go_at_call 145;(with_reducible refine cL.mono ?_);clear cL;rintro e w1 ⟨vb,A,n,c,mb,last,any,F1,rfl,hr,ho,hF,hp,hk⟩;have v1:w1.cell? ⟨vb,1,none⟩=some (.slice A n c):=hr.cell 1;have HO:=hD ho;have HF:=hD hF;have HP:=hD hp;have HK:=hD hk;clear hr ho hF hp hk);go_ret;obtain⟨A',c',hv⟩:=OwnL.form HO.out;injection hv with e1 e2 e3;rw[Z5d]at e2;subst e2;exact⟨A,c,F1,rfl,HO.out,HF.out,HP.out,HK.out⟩
theorem V7y{tr p i:Nat}{F:Nat->Prop}{S:StoreD}(T:TrD)(w:World)(ht:Z0b w tr p i)(hnt:¬F tr)(h:PagerAt w p F S)(hi:i<16)(hf:Fm S)(hT:TrS S i T)(hd:T.fine):
  Calls Tryz.prog 81 #[.pointer (some ⟨tr,0,none⟩)] w fun e w'=>e= .returned (.int .i64 0)/\∃F',PagerAt w' p F' (U2f S i T)/\Keeps F F' w w':=by
 have cR:=Z4c w ht hnt h hi;have cP:Hid (∀F1 W,PagerAt W p F1 S->Keeps F F1 w W->Calls Tryz.prog 99 #[.pointer (some ⟨tr,0,none⟩)] W fun e w'=>∃(A:Option Addr) (c:Nat) (F':Nat->Prop),e= .returned (.slice A T.pages.length c)/\OwnL w' 0 3 1 encN (.slice A T.pages.length c) (Z2v T.pages)/\(∀k,(Value.slice A T.pages.length c).ownBlock=some k->¬F' k)/\PagerAt w' p F' S/\Keeps F1 F' W w'):=fun F1 W q k=>Y9v T W (k.only.row ht hnt) (k.out ht.lt hnt) q hi hf hT hd;have HRW:Hid (∀F1 W,Keeps F F1 w W->Z0b W tr p i):=fun F1 W k=>k.only.row ht hnt;have HI:=hD hi;cases T with
 | no=>
   have hr0:Z1x S i=0:=hT;rw[hr0]at cR;clear ht hnt h hf hT hd cP hr0 hi;go_enter Tryz.func81,Tryz.ntmps81;go_wp2_with (go_at_call 78;(with_reducible refine cR.mono ?_);clear cR;rintro e w1 ⟨rfl,F1,hp1,hk1⟩;have HP1:=hD hp1;have HK1:=hD hk1;clear hp1 hk1);go_ret;exact⟨rfl,F1,HP1.out,HK1.out⟩
 | yes d t=>
   obtain⟨y1,y2,y3,y4⟩:=hT;rw[y1]at cR;have hpos:=(Z0k d t y2 _ (Z0q d t)).1;have HG:Hid (∀j b,(Z0a d t)[j]? =some b->Z0r (Z6p (Z0p S i 0) ((Z0a d t).take j)) b):=fun j b q=>by obtain⟨b1,hr1⟩:=Stp.setRoot (i:=i) (n:=0) (Stp.refl hf.full |>.mono (P':=fun _=>False) (fun _ q=>q)) hi (by omega);refine X2n b1.full (fun b r=> ?_) (by rw[b1.head];exact hf.most) y4 q;have hg:=Z0k d t y2 b r;exact⟨hg.1,by rw[b1.head];exact hg.2.1,(b1.used _).2 ⟨.inl hg.2.2,by simp⟩⟩
   rw[show TrD.pages (.yes d t)=Z0a d t from rfl]at cP;show Calls _ _ _ _ fun e w'=>e= .returned (.int .i64 0)/\∃F',PagerAt w' p F' (Z6p (Z0p S i 0) (Z0a d t))/\Keeps F F' w w';have hlen:(Z0a d t).length<=1024:=Y7z y4 (fun b hb=>by have:=(Z0k d t y2 b hb).2.1;have:=hf.most;omega);clear ht hnt h hf hd y1 y2 y3 y4 hi;generalize Z0a d t=P at *;generalize atT d t=a at *;have T1:((a:Int)==0)=false:=by simp;omega
   have T2:decide ((a:Int)=0)=false:=aM;have T3:0<a:=by omega
   go_enter Tryz.func81,Tryz.ntmps81;go_upto_region 5 with (first
    | (go_at_call 78;(with_reducible refine cR.mono ?_);clear cR;rintro e w1 ⟨rfl,F1,hp1,hk1⟩;have cP1:=cP.out _ _ hp1 hk1;have HK1:=hD hk1;clear hp1 hk1)
    | (go_at_call 99;(with_reducible refine cP1.mono ?_);clear cP1;rintro e w2 ⟨A,c,F2,rfl,ho2,hF2,hp2,hk2⟩;have HO2:=hD ho2;have HF2:=hD hF2;have HP2:=hD hp2;have HK2:=hD (Keeps.trans HK1.out hk2);clear ho2 hF2 hp2 hk2))
   have HR2:Hid (Z0b w2 tr p i):=HRW.out _ _ HK2.out;have cSR:Hid (∀W,Ext w2 W->Calls Tryz.prog 83 #[.pointer (some ⟨p,0,none⟩),.int .i64 i,.int .i64 0] W fun e w'=>e= .returned (.int .i64 0)/\∃F',PagerAt w' p F' (Z0p S i 0)/\Keeps F2 F' W w'):=fun W hW=>Z6f i 0 W (HP2.out.ext hW) HI.out (.inl rfl);have HCD:Hid (∀(F':Nat->Prop) (W W' W'':World),Ext w2 W->Keeps F2 F' W W'->Ext W' W''->W''.cell? ⟨tr,0,none⟩=some (.pointer (some ⟨p,0,none⟩))/\W''.cell? ⟨tr,1,none⟩=some (.int .i64 (i:Int))):=fun F' W W' W'' hx hk hx2=>by have r1:=HRW.out _ _ (((HK2.out.ext hx).trans hk).ext hx2);exact⟨r1.cell 0,r1.cell 1⟩
   refine wp_region_held_drew (S:=fun W=>W.cell? ⟨tr,0,none⟩=some (.pointer (some ⟨p,0,none⟩))/\W.cell? ⟨tr,1,none⟩=some (.int .i64 (i:Int))) (by kernel_rfl) (HCD.out F2 w2 w2 _ (Ext.refl _) Keeps.refl (by exact Xt)) (fun hHeld=> ?_);refine' tk 0 ?_;refine' tk 1 ?_;refine' tk 2 ?_;refine' tk 3 ?_;refine' tk 4 ?_;refine' tk 5 ?_;refine' tk 6 ?_;refine' tk 7 ?_;refine stp 8 (fun K hK=> ?_);go_simp
   (with_reducible refine(cSR.out _ ?_).mono ?_)
   ·exact Xt
   rintro e w3 ⟨rfl,F3,hp3,hk3⟩;have HP3:=hD hp3;have HK3:=hD hk3;clear hp3 hk3
   (try dsimp only)
   (try go_simp)
   refine hK.out _ _ (HCD.out _ _ _ _ (Below.drew (Ext.refl _)) HK3.out (Ext.refl _)) (fun hHeld=> ?_);clear hK K;refine pt ?_;refine' tk 9 ?_;refine wpAnyH_done (by kernel_rfl) ?_ _;have hk3:Keeps F2 F3 w2 w3:=(Keeps.of (Below.drew (Ext.refl _))).trans HK3.out;have HO3:Hid (OwnL w3 0 3 1 encN (.slice A P.length c) (Z2v P)):=HO2.out.only hk3.only HF2.out;have HF3:Hid (∀k,(Value.slice A P.length c).ownBlock=some k->¬F3 k):=fun k q=>hk3.out (HO2.out.lt k q).2 (HF2.out k q);have HK23:=hD (HK2.out.trans hk3);clear hk3 HO2 HF2 HK3 HCD cSR HR2 HK1 cP;go_wp2_with fail
   go_loopw [38] (fun x wr=>∃(j:Nat) (Fr:Nat->Prop),j<=P.length/\x= .int .i64 j/\Hid (PagerAt wr p Fr (Z6p (Z0p S i 0) (P.take j))/\Keeps F3 Fr w3 wr)) (fun x _=>P.length-(intOf x).toNat)
   case atStart=>exact⟨0,F3,Nat.zero_le _,rfl,hD ⟨HP3.out,Keeps.refl⟩⟩
   case round=>
    obtain⟨j,Fr,hj,rfl,HR⟩:=hrel;by_cases hjn:j<P.length
    ·have q2:decide ((j:Int)<(P.length:Int))=true:=aN;have q2':(j:Int)<(P.length:Int):=by omega
     obtain⟨b,hb⟩:∃b,P[j]? =some b:=⟨_,aB hjn⟩;have hor:=HO3.out.only HR.out.2.only HF3.out;obtain⟨g,c',hv,hgl,hgc⟩:=Z6o hor j (by rw[Z5d];exact hjn);rw[V8k hb]at hgc;injection hv with e1 e2 e3;subst e1 e3;have cF:=Y3w b wr HR.out.1 (HG.out j b hb);rw[<-X7u _ hb]at cF;have t0:wr.cell? ⟨tr,0,none⟩=some (.pointer (some ⟨p,0,none⟩)):=(HRW.out _ _ (HK23.out.trans HR.out.2)).cell 0;clear e2 hb hor;go_wp2_with (go_at_call 84;(with_reducible refine cF.mono ?_);clear cF;rintro e w5 ⟨rfl,F5,hp5,hk5⟩;have HP5:=hD hp5;have HK5:=hD hk5;clear hp5 hk5)
     go_roundw
     case rel=>exact⟨j+1,F5,by omega,rfl,hD ⟨HP5.out,HR.out.2.trans HK5.out⟩⟩
     case measure=>simp[intOf];omega
    ·have q2:decide ((j:Int)<(P.length:Int))=false:=aM;have q2':¬(j:Int)<(P.length:Int):=by omega
     have hjp:j=P.length:=by omega
     have HR':Hid (PagerAt wr p Fr (Z6p (Z0p S i 0) P)/\Keeps F3 Fr w3 wr):=by have:=HR.out;rw[hjp,List.take_length]at this;exact this
     clear hjp;go_wp2_with fail;go_ret;exact⟨rfl,Fr,HR'.out.1,HK23.out.trans HR'.out.2⟩
theorem V4y{tr p i:Nat}{F:Nat->Prop}{S:StoreD}(T:TrD)(k:ByteArray)(w:World)(ht:Z0b w tr p i)(hnt:¬F tr)(h:PagerAt w p F S)(hf:Fm S)(hi:i<16)(hT:TrS S i T)(hd:T.fine)(hk:∃x∈T.list,x.1=k):
  Calls Tryz.prog 31 #[.pointer (some ⟨tr,0,none⟩),.string k] w fun e w'=>e= .returned (.int .i64 0)/\∃(S':StoreD) (T':TrD) (F':Nat->Prop),Z9h S i k S' T' T/\PagerAt w' p F' S'/\Keeps F F' w w':=by
 cases T with
 | no=>obtain⟨x,hx,_⟩:=hk;cases hx
 | yes d t=>exact V7z t k w ht hnt h hf hi hT hk hd (fun S1 t1 W F1 _ _ y1 y2 y3 y4 y5=>V7y (.yes d t1) W y3 y4 y5 hi y2 y1 hd)
theorem V2v{l:List OpD}(h:l.Pairwise (fun a b=>a.id≠b.id)){o:OpD}(ho:o∈l):getL l o.id=some o:=by
 cases hg:getL l o.id with
 | none=>
   unfold getL at hg;have:=List.find?_eq_none.1 hg o ho;simp at this
 | some x=>
   unfold getL at hg;have h1:x.id=o.id:=by have:=List.find?_some hg;simpa using this
   rw[X2i h (List.mem_of_find?_eq_some hg) ho h1]
def Z4d(Ts:Nat->TrD):Nat->Nat
 | 0=>0
 | k+1=>Z4d Ts k+(Ts k).pages.length
theorem Y9w{Ts Ts':Nat->TrD}{k:Nat}(h:∀i,i<k->Ts' i=Ts i):Z4d Ts' k=Z4d Ts k:=by
 induction k with
 | zero=>rfl
 | succ k ih=>rw[Z4d,Z4d,ih (fun i hi=>h i (by omega)),h k (by omega)]
structure DelK (tb p:Nat) (ts:Nat->Nat) (Ts0:Nat->TrD) (L:Nat->List OpD) (o:OpD) (R:Nat) (F0:Nat->Prop) (w:World) (k:Nat) (wr:World) (S:StoreD) (Ts:Nat->TrD) (F:Nat->Prop):Prop where
 at_:TblAt wr tb p ts F
 pag:PagerAt wr p F S
 keep:Keeps F0 F w wr
 tab:Tab S Ts (fun i=>if i<k then delO (L i) o.id else L i)
 done:∀i,i<k->∃Sa Sb,Fm Sa/\TrS Sa i (Ts0 i)/\(∃x∈(Ts0 i).list,x.1=wayK i o)/\Z9h Sa i (wayK i o) Sb (Ts i) (Ts0 i)
 same:∀i,k<=i->Ts i=Ts0 i
 dep:∀i,depT (Ts i)<=depT (Ts0 i)
 less:∀i,(Ts i).pages.length<=(Ts0 i).pages.length
 room:R+Z4d Ts0 k=Z0x S+Z4d Ts k
theorem DelK.step{tb p:Nat}{ts:Nat->Nat}{Ts0:Nat->TrD}{L:Nat->List OpD}{o:OpD}{R:Nat}{F0 F F':Nat->Prop}{w wr w':World}{k:Nat}{S S':StoreD}{Ts:Nat->TrD}{T':TrD}(h:DelK tb p ts Ts0 L o R F0 w k wr S Ts F)(hk:k<5)(ho:o∈L k)
 (hp:Z9h S k (wayK k o) S' T' (Ts k))(hp':PagerAt w' p F' S')(hkp:Keeps F F' wr w'):DelK tb p ts Ts0 L o R F0 w (k+1) w' S' (updF Ts k T') F':=by
 obtain⟨h1,h2,h3,h4⟩:=h.tab.delR hk (by rw[if_neg (Nat.lt_irrefl _)];exact ho) hp;have hs:=h.same k (aF _);refine⟨h.at_.keep hkp,hp',h.keep.trans hkp,h1.congr (fun i _=>rfl) (fun i _=> ?_),fun i hi=> ?_,fun i hi=> ?_,fun i=> ?_,fun i=> ?_,?_⟩
 ·by_cases e:i=k
  ·subst e;rw[Z0t,if_pos (by omega),if_neg (by omega)]
  ·rw[Z0o _ _ e];by_cases hl:i<k
   ·rw[if_pos hl,if_pos (by omega)]
   ·rw[if_neg hl,if_neg (by omega)]
 ·by_cases e:i=k
  ·subst e;rw[Z0t];exact⟨S,S',h.tab.fm,hs▸h.tab.tr i hk,hs▸⟨_,(h.tab.mem i hk _).2 ⟨o,by rw[if_neg (Nat.lt_irrefl _)];exact ho,rfl⟩,rfl⟩,hs▸hp⟩
  ·rw[Z0o _ _ e];exact h.done i (by omega)
 ·rw[Z0o _ _ (by omega)];exact h.same i (by omega)
 ·by_cases e:i=k
  ·subst e;rw[Z0t,<-hs];exact h3
  ·rw[Z0o _ _ e];exact h.dep i
 ·by_cases e:i=k
  ·subst e;rw[Z0t,<-hs];exact h4
  ·rw[Z0o _ _ e];exact h.less i
 ·have:=h.room;have e1:Z4d (updF Ts k T') k=Z4d Ts k:=Y9w (fun i hi=>Z0o _ _ (by omega));show R+(Z4d Ts0 k+(Ts0 k).pages.length)=Z0x S'+(Z4d (updF Ts k T') k+(updF Ts k T' k).pages.length);rw[Z0t,e1];rw[hs]at h2;omega
theorem Y3y{Ts Ts':Nat->TrD}(h:∀i,(Ts' i).pages.length<=(Ts i).pages.length):∀k,Z4d Ts' k<=Z4d Ts k
 | 0=>aF _
 | k+1=>by have h1:=Y3y h k;have h2:=h k;show Z4d Ts' k+(Ts' k).pages.length<=Z4d Ts k+(Ts k).pages.length;omega
theorem Y6h{Ts Ts':Nat->TrD}(h:∀i,depT (Ts' i)<=depT (Ts i)):∀k,Z4x Ts' k<=Z4x Ts k
 | 0=>aF _
 | k+1=>by have h1:=Y6h h k;have h2:=h k;show Z4x Ts' k+(Ts' k).need<=Z4x Ts k+(Ts k).need;rw[Y2s,Y2s];omega
structure DelB (S0:StoreD) (Ts0:Nat->TrD) (l:List OpD) (id:Int) (S:StoreD) (Ts:Nat->TrD):Prop where
 tab:Tab S Ts (fun _=>delO l id)
 dep:∀i,depT (Ts i)<=depT (Ts0 i)
 less:∀i,(Ts i).pages.length<=(Ts0 i).pages.length
 room:Z0x S0+Z4d Ts0 5=Z0x S+Z4d Ts 5
 done:(Ts=Ts0/\getL l id=none)\/∃o,getL l id=some o/\∀i,i<5->∃Sa Sb,Fm Sa/\TrS Sa i (Ts0 i)/\(∃x∈(Ts0 i).list,x.1=wayK i o)/\Z9h Sa i (wayK i o) Sb (Ts i) (Ts0 i)
theorem DelB.more{S0 S:StoreD}{Ts0 Ts:Nat->TrD}{l:List OpD}{id:Int}(h:DelB S0 Ts0 l id S Ts):Z0x S0<=Z0x S/\Z4x Ts 5<=Z4x Ts0 5:=by have h1:=h.room;have h2:=Y3y h.less 5;exact⟨by omega,Y6h h.dep 5⟩
theorem V3s{l:List OpD}{id:Int}(h:getL l id=none):delO l id=l:=by unfold getL at h;rw[List.find?_eq_none]at h;unfold delO;rw[List.filter_eq_self];intro x hx;have:=h x hx;simpa using this
def delE(l:List OpD)(id:Int):Int:=if(getL l id).isSome then 0 else 6
structure PutB (S0:StoreD) (Ts0:Nat->TrD) (l:List OpD) (o:OpD) (S:StoreD) (Ts:Nat->TrD):Prop where
 tab:Tab S Ts (fun _=>o::delO l o.id)
 via:∃S1 Ts1,DelB S0 Ts0 l o.id S1 Ts1/\(∀i,i<5->U1h i o (Ts1 i) (Ts i))/\Z0x S1<=Z0x S+Z4x Ts1 5
theorem Ris.ids{l:List OpD}(h:Ris l):l.Pairwise (fun a b=>a.id≠b.id):=h.imp (fun q e=>by omega)
theorem V9g{l:List OpD}(h:Ris l)(o x:OpD):x∈wiO l o↔x=o\/(x∈l/\x.id≠o.id):=by
 rw[X8t];have ht:∀x∈l.takeWhile (fun x=>decide (x.id<o.id)),x.id<o.id:=fun x hx=>by have:=List.all_takeWhile (p:=fun x:OpD=>decide (x.id<o.id)) (l:=l);rw[List.all_eq_true]at this;exact of_decide_eq_true (this x hx)
 have hl:x∈l↔x∈l.takeWhile (fun x=>decide (x.id<o.id))\/x∈l.dropWhile (fun x=>decide (x.id<o.id)):=by rw[<-List.mem_append,List.takeWhile_append_dropWhile]
 rw[List.mem_append,List.mem_append,List.mem_singleton,List.mem_filter,hl];constructor
 ·rintro((h1 | h1) | ⟨h1,h2⟩)
  ·exact .inr ⟨.inl h1,by have:=ht x h1;omega⟩
  ·exact .inl h1
  ·exact .inr ⟨.inr h1,by simpa using h2⟩
 ·rintro(h1 | ⟨h1 | h1,h2⟩)
  ·exact .inl (.inr h1)
  ·exact .inl (.inl h1)
  ·exact .inr ⟨h1,by simpa using h2⟩
theorem V8b{l:List OpD}(h:Ris l)(id:Int):Ris (delO l id):=List.Pairwise.filter _ h
theorem Tab.list{S:StoreD}{Ts:Nat->TrD}{l r:List OpD}(h:Tab S Ts (fun _=>l))(hr:Ris r)(hm:∀x,x∈r↔x∈l):Tab S Ts (fun _=>r):=
 ⟨h.fm,h.tr,h.disj,fun i hi o ho=>h.ok i hi o ((hm o).1 ho),fun _ _=>hr.ids,fun i hi x=>(h.mem i hi x).trans ⟨fun ⟨o,q1,q2⟩=>⟨o,(hm o).2 q1,q2⟩,fun⟨o,q1,q2⟩=>⟨o,(hm o).1 q1,q2⟩⟩⟩
theorem PutB.list{S0 S:StoreD}{Ts0 Ts:Nat->TrD}{l:List OpD}{o:OpD}(h:PutB S0 Ts0 l o S Ts)(hr:Ris l):Tab S Ts (fun _=>wiO l o):=
 h.tab.list (X8s l o hr) (fun x=>by rw[V9g hr,List.mem_cons,Y0k])
def allD:TrD->List ByteArray
 | .no=> []
 | .yes d t=>allT d t
def Slim(T:TrD):Prop:=∀x∈allD T,x.size<=24
def potT:TrD->Nat
 | .no=>0
 | .yes 0 _=>1
 | .yes (d+1) t=>1+9*d+min (InT.keys t).length 9
theorem X4n(T:TrD):9*T.need<=potT T+26:=by
 cases T with
 | no=>show 9*1<=0+26;omega
 | yes d t=>
   cases d with
   | zero=>show 9*2<=1+26;omega
   | succ d=>show 9*(d+1+2)<=1+9*d+min _ 9+26;omega
theorem Y3s{d:Nat}{S S':StoreD}{t t':TT (d+1)}{k v:ByteArray}{o:Option (ByteArray×TT (d+1))}(h:PutR (d+1) S t k v S' t' o)(hf:Fm S)(hon:onT S (d+1) t)(hok:okT (d+1) t)(hk:Z3a k)(hv:v.size<=80)(hnd:(Z0a (d+1) t).Nodup)(hk24:k.size<=24)(hs:∀x∈allT (d+1) t,x.size<=24):
  (o=none->(InT.keys t').length<=(InT.keys t).length+1)/\(o≠none->9<=(InT.keys t).length):=by
 obtain⟨c,hc,S1,c',o1,h1,h2⟩:=h;have hcm:c∈InT.kids t:=List.mem_of_getElem? hc;obtain⟨F1,q⟩:=Z5i d h1 hf (hon.2 c hcm) (hok.2.2.2.1 c hcm) hk hv ((Z1c hnd).1 c hcm).2;have hsk:∀x∈InT.keys t,x.size<=24:=fun x hx=>hs x (List.mem_append_left _ hx);have hsc:∀x∈allT d c,x.size<=24:=fun x hx=>hs x (List.mem_append_right _ (List.mem_flatMap.2 ⟨c,hcm,hx⟩));have hkl:=hok.2.1;cases o1 with
 | none=>
   obtain⟨_,rfl,rfl⟩:=h2;exact⟨fun _=>Nat.le_succ _,fun q=>absurd rfl q⟩
 | some x=>
   have hx24:x.1.size<=24:=by
    rcases(q.right x.1 x.2 rfl).key with e | e
    ·rw[e];exact hk24
    ·exact hsc _ e
   obtain⟨y,hcd,hy⟩:=h2;have hlen:(insL (InT.keys t) (Z0g (InT.keys t) k) x.1).length=(InT.keys t).length+1:=Z1b _ _ _;cases y with
   | none=>
     obtain⟨rfl,rfl⟩:=hy;exact⟨fun _=>Nat.le_of_eq hlen,fun q=>absurd rfl q⟩
   | some y=>
     obtain⟨m,r⟩:=y;obtain⟨mid,_,rfl,rfl⟩:=hy;refine⟨(fun q=>by cases q),fun _=> ?_⟩;have hbig:256<Z0m (Z0c (d+1) (InT.mk (InT.at_ t) (insL (InT.keys t) (Z0g (InT.keys t) k) x.1) (insL ((InT.kids t).set (Z0g (InT.keys t) k) c') (Z0g (InT.keys t) k+1) x.2))):=hcd.1;have hsz:Z0m (Z0c (d+1) (InT.mk (InT.at_ t) (insL (InT.keys t) (Z0g (InT.keys t) k) x.1) (insL ((InT.kids t).set (Z0g (InT.keys t) k) c') (Z0g (InT.keys t) k+1) x.2)))=2+2*((insL ((InT.kids t).set (Z0g (InT.keys t) k) c') (Z0g (InT.keys t) k+1) x.2).map (fun c=>(atT d c:Int))).length+Z0n (insL (InT.keys t) (Z0g (InT.keys t) k) x.1)+Z0n []:=rfl;rw[hsz,List.length_map,Z1b,List.length_set,hkl]at hbig;have hm:=Z3r (l:=insL (InT.keys t) (Z0g (InT.keys t) k) x.1) (q:=24) (fun y hy=>by
      rcases Z8c hy with e | e
      ·rw[e];exact hx24
      ·exact hsk y e)
     rw[hlen]at hm;have:Z0n []=0:=rfl;omega
theorem V9w{S S':StoreD}{i:Nat}{k v:ByteArray}{T T':TrD}(h:Y1x S i k v S' T' T)(hf:Fm S)(ht:TrS S i T)(hk:Z3a k)(hv:v.size<=80)(hk24:k.size<=24)(hs:Slim T):potT T'<=potT T+1/\Slim T':=by
 cases T with
 | no=>
   obtain⟨a,_,_,rfl⟩:=h;refine⟨aF _,fun x hx=> ?_⟩;have:x∈ [k]:=hx;rw[List.mem_singleton]at this;rw[this];exact hk24
 | yes d t=>
   obtain⟨_,hon,hok,hnd⟩:=ht;obtain⟨S1,t',o,h1,h2⟩:=h;obtain⟨F,q⟩:=Z5i d h1 hf hon hok hk hv hnd;have hA:∀x,(x=k\/x∈allT d t)->x.size<=24:=fun x hx=>by
    rcases hx with e | e
    ·rw[e];exact hk24
    ·exact hs x e
   cases o with
   | none=>
     obtain⟨_,rfl⟩:=h2;refine⟨?_,fun x hx=>hA x (q.all x hx)⟩;cases d with
     | zero=>show 1<=1+1;omega
     | succ d=>
       have:=(Y3s h1 hf hon hok hk hv hnd hk24 hs).1 rfl;show 1+9*d+min (InT.keys t').length 9<=1+9*d+min (InT.keys t).length 9+1;omega
   | some x=>
     obtain⟨mid,r⟩:=x;obtain⟨top,_,_,rfl⟩:=h2;have hR:=q.right mid r rfl;refine⟨?_,fun y hy=> ?_⟩
     ·show 1+9*d+min 1 9<=_;cases d with
      | zero=>show 1+9*0+min 1 9<=1+1;omega
      | succ d=>
        have:=(Y3s h1 hf hon hok hk hv hnd hk24 hs).2 (by intro e;cases e);show 1+9*(d+1)+min 1 9<=1+9*d+min (InT.keys t).length 9+1;omega
     ·have hy':y∈ [mid]++ [t',r].flatMap (allT d):=hy;rw[List.mem_append,List.mem_singleton,List.mem_flatMap]at hy';rcases hy' with e | ⟨z,hz,e⟩
      ·rw[e];exact hA _ hR.key
      ·rcases List.mem_cons.1 hz with rfl | hz
       ·exact hA _ (q.all y e)
       ·rw[List.mem_singleton]at hz;subst hz;exact hA _ (hR.all y e)
theorem X9v(i:Nat):∀(d:Nat) {S S':StoreD} {t:TT d} {T':TrD},ShrR i d S t S' T'->potT T'<=potT (.yes d t)/\∀x∈allD T',x∈allT d t
 | 0,_,_,_,_,h=>by
   obtain⟨_,rfl⟩:=h;exact⟨aF _,fun x hx=>hx⟩
 | d+1,_,_,t,_,h=>by
   rcases h with ⟨_,_,rfl⟩ | ⟨c,hc,h⟩
   ·exact⟨aF _,fun x hx=>hx⟩
   ·obtain⟨h1,h2⟩:=X9v i d h;refine⟨Nat.le_trans h1 ?_,fun x hx=> ?_⟩
    ·cases d with
     | zero=>show 1<=1+9*0+_;omega
     | succ d=>show 1+9*d+min _ 9<=1+9*(d+1)+min _ 9;omega
    ·show x∈InT.keys t++(InT.kids t).flatMap (allT d);rw[hc];exact List.mem_append_right _ (List.mem_flatMap.2 ⟨c,List.mem_singleton.2 rfl,h2 x hx⟩)
theorem X9m{d:Nat}{S S':StoreD}{t t':TT (d+1)}{k:ByteArray}(h:Y2j (d+1) S t k S' t'):(InT.keys t').length<=(InT.keys t).length:=by
 obtain⟨c,_,S1,c',_,h⟩:=h;rcases h with ⟨_,_,rfl⟩ | ⟨_,a,b,s,_,_,_,⟨_,_,rfl⟩ | ⟨_,_,rfl⟩⟩
 ·exact aF _
 ·exact aF _
 ·exact List.length_eraseIdx_le _ _
theorem V9x{S S':StoreD}{i:Nat}{k:ByteArray}{T T':TrD}(h:Z9h S i k S' T' T)(hf:Fm S)(ht:TrS S i T)(hk:∃x∈T.list,x.1=k)(hs:Slim T):potT T'<=potT T/\Slim T':=by
 cases T with
 | no=>exact h.elim
 | yes d t=>
   obtain⟨_,hon,hok,hnd⟩:=ht;obtain⟨S1,t1,htk,h⟩:=h;obtain⟨G1,hl⟩:=Z6y d htk hf hon hok ((Y0c d t hok k).2 hk) hnd;rcases h with ⟨_,_,rfl⟩ | ⟨_,h⟩
   ·exact⟨Nat.zero_le _,fun x hx=>by cases hx⟩
   ·obtain⟨h1,h2⟩:=X9v i d h;refine⟨Nat.le_trans h1 ?_,fun x hx=>hs x (hl.all x (h2 x hx))⟩;cases d with
    | zero=>exact aF _
    | succ d=>
      have:=X9m htk;show 1+9*d+min (InT.keys t1).length 9<=1+9*d+min (InT.keys t).length 9;omega
def Y2h:Nat->Nat
 | 0=>0
 | t+1=>Y2h t+5*((t+26)/9)
theorem Y0v:∀ {a b:Nat},a<=b->Y2h a<=Y2h b
 | a,0,h=>by rw[Nat.le_zero.1 h];exact aF _
 | a,b+1,h=>by
   by_cases e:a=b+1
   ·rw[e];exact aF _
   ·have:=Y0v (show a<=b by omega);show Y2h a<=Y2h b+_;omega
structure TabI (c:Nat) (S:StoreD) (Ts:Nat->TrD) (l:List OpD) (t:Nat):Prop where
 tab:Tab S Ts (fun _=>l)
 ris:Ris l
 pot:∀i,i<5->potT (Ts i)<=t
 slim:∀i,i<5->Slim (Ts i)
 room:c<=Z0x S+Y2h t
theorem Y4i{Ts:Nat->TrD}{t:Nat}(h:∀i,i<5->potT (Ts i)<=t):∀k,k<=5->Z4x Ts k<=k*((t+26)/9)
 | 0,_=>Nat.zero_le _
 | k+1,hk=>by
   have h1:=Y4i h k (by omega);have h2:=X4n (Ts k);have h3:=h k (by omega);have h4:(Ts k).need<=(t+26)/9:=by omega
   show Z4x Ts k+(Ts k).need<=_;rw[Nat.succ_mul];omega
theorem TabI.dep{c:Nat}{S:StoreD}{Ts:Nat->TrD}{l:List OpD}{t:Nat}(h:TabI c S Ts l t)(ht:t<=40)(i:Nat)(hi:i<5):depT (Ts i)<=31:=by have h1:=X4n (Ts i);have h2:=h.pot i hi;rw[Y2s]at h1;omega
theorem TabI.enough{c:Nat}{S:StoreD}{Ts:Nat->TrD}{l:List OpD}{t:Nat}(h:TabI c S Ts l t)(ht:Y2h (t+1)<=c):Z4x Ts 5<=Z0x S:=by have h1:=Y4i h.pot 5 (aF _);have h4:Y2h (t+1)=Y2h t+5*((t+26)/9):=rfl;have h5:=h.room;omega
theorem TabI.more{c:Nat}{S:StoreD}{Ts:Nat->TrD}{l:List OpD}{t u:Nat}(h:TabI c S Ts l t)(hu:t<=u):TabI c S Ts l u:=
 ⟨h.tab,h.ris,fun i hi=>Nat.le_trans (h.pot i hi) hu,h.slim,by have:=Y0v hu;have:=h.room;omega⟩
theorem DelB.pot{S0 S:StoreD}{Ts0 Ts:Nat->TrD}{l:List OpD}{id:Int}{i:Nat}(h:DelB S0 Ts0 l id S Ts)(hi:i<5)(hs:Slim (Ts0 i)):potT (Ts i)<=potT (Ts0 i)/\Slim (Ts i):=by
 rcases h.done with ⟨rfl,_⟩ | ⟨o,_,hd⟩
 ·exact⟨aF _,hs⟩
 ·obtain⟨Sa,Sb,q1,q2,q3,q4⟩:=hd i hi;exact V9x q4 q1 q2 q3 hs
theorem TabI.del{c:Nat}{S0 S:StoreD}{Ts0 Ts:Nat->TrD}{l:List OpD}{id:Int}{t:Nat}(h:TabI c S0 Ts0 l t)(hb:DelB S0 Ts0 l id S Ts):TabI c S Ts (delO l id) t:=
 ⟨hb.tab,V8b h.ris id,fun i hi=>Nat.le_trans (hb.pot hi (h.slim i hi)).1 (h.pot i hi),fun i hi=>(hb.pot hi (h.slim i hi)).2,by have:=hb.more.1;have:=h.room;omega⟩
theorem X8u(i:Nat)(o:OpD):(wayK i o).size<=24:=by unfold wayK;rw[Z0h,Z3y];have:=Y2l i o;omega
theorem TabI.put{c:Nat}{S0 S:StoreD}{Ts0 Ts:Nat->TrD}{l:List OpD}{o:OpD}{t:Nat}(h:TabI c S0 Ts0 l t)(ho:Z1s o=0)(hb:PutB S0 Ts0 l o S Ts):TabI c S Ts (wiO l o) (t+1):=by
 obtain⟨S1,Ts1,hd,hp,hr⟩:=hb.via;have h1:=h.del hd;have hpt:∀i,i<5->potT (Ts i)<=potT (Ts1 i)+1/\Slim (Ts i):=fun i hi=>by obtain⟨Sa,Sb,q1,q2,q3⟩:=hp i hi;exact V9w q3 q1 q2 (Z6w i o) (Z9t i (OpIn.of ho)) (X8u i o) (h1.slim i hi)
 refine⟨hb.list h.ris,X8s l o h.ris,fun i hi=> ?_,fun i hi=>(hpt i hi).2,?_⟩
 ·have:=(hpt i hi).1;have:=h1.pot i hi;omega
 ·have h2:=Y4i h1.pot 5 (aF _);have h3:=h1.room;show c<=Z0x S+(Y2h t+5*((t+26)/9));omega
structure Soil (n:Nat) (C S:StoreD):Prop where
 same:S= { C with dirty:=S.dirty}
 list:∃L:List Nat,L.length<=n/\∀b:Nat,2<=b->(S.dirty (b:Int)≠none\/Z0z S b=true)->b∈L
theorem Soil.big{n m i:Nat}{P:Nat->Prop}{F G:List Nat}{C S S':StoreD}(h:Soil n C S)(hb:Big i P F G S S')(hP:∀b,P b->Z0z S b=true)(hF:F.length<=m):Soil (n+m) C S':=by
 obtain⟨L,hL,h1⟩:=h.list;refine⟨by rw[hb.same,h.same],L++F,by rw[aA];omega,fun b h2 hq=> ?_⟩;rw[List.mem_append];rcases hq with q | q
 ·rcases hb.dirt b h2 q with q | q | q
  ·exact .inl (h1 b h2 (.inl q))
  ·exact .inl (h1 b h2 (.inr (hP b q)))
  ·exact .inr q
 ·rcases((hb.used b).1 q).1 with q | q
  ·exact .inl (h1 b h2 (.inr q))
  ·exact .inr q
theorem Soil.more{n m:Nat}{C S:StoreD}(h:Soil n C S)(hm:n<=m):Soil m C S:=
 ⟨h.same,let ⟨L,h1,h2⟩:=h.list;⟨L,Nat.le_trans h1 hm,h2⟩⟩
theorem Soil.del{n i:Nat}{k:ByteArray}{C S S':StoreD}{T T':TrD}(h:Soil n C S)(hi:i<16)(hp:Z9h S i k S' T' T)(hf:Fm S)(ht:TrS S i T)(hk:∃x∈T.list,x.1=k):Soil n C S':=by obtain⟨G,hl⟩:=Y4u hi hp hf ht hk;exact h.big hl.big (fun b q=>(ht.given b q).2.2) (aF 0)
theorem V7t{α β:Type}(f:α->List β)(l:List α)(i:Nat)(x:α):((insL l i x).flatMap f).length=(l.flatMap f).length+(f x).length:=by
 unfold insL
 conv=>rhs;rw[<-List.take_append_drop i l]
 simp only[aH,aI,aA];omega
theorem V7s{α β:Type}(f:α->List β)(l:List α){j:Nat}{c c':α}(hc:l[j]? =some c):((l.set j c').flatMap f).length+(f c).length=(l.flatMap f).length+(f c').length:=by obtain⟨hj,rfl⟩:=aC.1 hc;rw[Z7n f l hj,Z6k f l hj];simp only[aA];omega
theorem X6x:∀(d:Nat) {S S':StoreD} {t t':TT d} {k v:ByteArray} {o:Option (ByteArray×TT d)},PutR d S t k v S' t' o->Fm S->onT S d t->okT d t->Z3a k->v.size<=80->(Z0a d t).Nodup->o=none->(Z0a d t').length<=(Z0a d t).length+d
 | 0,_,_,_,_,_,_,_,_,_,_,_,_,_,_,_=>aF 1
 | d+1,S,S',t,t',k,v,o,h,hf,hon,hok,hk,hv,hnd,ho=>by
   obtain⟨c,hc,S1,c',o1,h1,h2⟩:=h;have hcm:c∈InT.kids t:=List.mem_of_getElem? hc;obtain⟨F1,q⟩:=Z5i d h1 hf (hon.2 c hcm) (hok.2.2.2.1 c hcm) hk hv ((Z1c hnd).1 c hcm).2;have hl:=q.pages.length_eq;have hq:F1.length<=d+1:=q.len;rw[aA,aA]at hl;have hp:∀x:TT (d+1),(Z0a (d+1) x).length=((InT.kids x).flatMap (Z0a d)).length+1:=fun x=>rfl;have hs:=V7s (Z0a d) (InT.kids t) (c':=c') hc;rw[hp,hp];cases o1 with
   | none=>
     obtain⟨_,rfl,_⟩:=h2;have e:(Z8n d none).length=0:=rfl;show((InT.kids t).set _ c' |>.flatMap (Z0a d)).length+1<=_;omega
   | some x=>
     obtain⟨y,_,hy⟩:=h2;cases y with
     | some y=>
       obtain⟨mid,_,_,e⟩:=hy;rw[ho]at e;cases e
     | none=>
       obtain⟨rfl,_⟩:=hy;have e:(Z8n d (some x)).length=(Z0a d x.2).length:=rfl;have hi:=V7t (Z0a d) ((InT.kids t).set (Z0g (InT.keys t) k) c') (Z0g (InT.keys t) k+1) x.2;show((insL ((InT.kids t).set _ c') _ x.2).flatMap (Z0a d)).length+1<=_;omega
def Y4p(T:TrD):Nat:=(potT T+17)/9
theorem X6o{S S':StoreD}{i:Nat}{k v:ByteArray}{T T':TrD}(hi:i<16)(h:Y1x S i k v S' T' T)(hf:Fm S)(ht:TrS S i T)(hk:Z3a k)(hv:v.size<=80)(hk24:k.size<=24)(hs:Slim T):∃F,PutTL S i T k v S' T' F/\F.length<=Y4p T:=by
 obtain⟨F,hl⟩:=Y3r hi h hf ht hk hv;refine⟨F,hl,?_⟩;have hp:=hl.pages.length_eq;rw[aA]at hp;unfold Y4p;cases T with
 | no=>
   obtain⟨a,_,_,rfl⟩:=h;have e1:(TrD.pages (.yes 0 (LeafT.mk a [k] [v]))).length=1:=rfl;have e2:(TrD.pages .no).length=0:=rfl;have e3:potT .no=0:=rfl;omega
 | yes d t=>
   obtain⟨_,hon,hok,hnd⟩:=ht;obtain⟨S1,t',o,h1,h2⟩:=h;obtain⟨F1,q⟩:=Z5i d h1 hf hon hok hk hv hnd;have hl1:=q.pages.length_eq;have hq:F1.length<=d+1:=q.len;rw[aA,aA]at hl1;have e0:(TrD.pages (.yes d t)).length=(Z0a d t).length:=rfl;cases o with
   | none=>
     obtain⟨_,rfl⟩:=h2;have h3:=X6x d h1 hf hon hok hk hv hnd rfl;have e1:(TrD.pages (.yes d t')).length=(Z0a d t').length:=rfl;cases d with
     | zero=>have e2:potT (.yes 0 t)=1:=rfl;omega
     | succ d=>have e2:potT (.yes (d+1) t)=1+9*d+min (InT.keys t).length 9:=rfl;omega
   | some x=>
     obtain⟨top,_,_,rfl⟩:=h2;have e1:(TrD.pages (.yes (d+1) (InT.mk top [x.1] [t',x.2]))).length=(Z0a d t').length+(Z0a d x.2).length+1:=by show(top:: [t',x.2].flatMap (Z0a d)).length=_;simp
     have e3:(Z8n d (some x)).length=(Z0a d x.2).length:=rfl;cases d with
     | zero=>have e2:potT (.yes 0 t)=1:=rfl;omega
     | succ d=>
       have h4:=(Y3s h1 hf hon hok hk hv hnd hk24 hs).2 (by intro e;cases e);have e2:potT (.yes (d+1) t)=1+9*d+min (InT.keys t).length 9:=rfl;omega
theorem Soil.put{n i:Nat}{k v:ByteArray}{C S S':StoreD}{T T':TrD}(h:Soil n C S)(hi:i<16)(hp:Y1x S i k v S' T' T)(hf:Fm S)(ht:TrS S i T)(hk:Z3a k)(hv:v.size<=80)(hk24:k.size<=24)(hs:Slim T):Soil (n+Y4p T) C S':=by obtain⟨F,hl,hn⟩:=X6o hi hp hf ht hk hv hk24 hs;exact h.big hl.big (fun b q=>(ht.given b q).2.2) hn
def X0p(Ts:Nat->TrD):Nat->Nat
 | 0=>0
 | k+1=>X0p Ts k+Y4p (Ts k)
def Y9i:Nat->Nat
 | 0=>0
 | t+1=>Y9i t+5*((t+17)/9)
theorem Y0x:∀ {a b:Nat},a<=b->Y9i a<=Y9i b
 | a,0,h=>by rw[Nat.le_zero.1 h];exact aF _
 | a,b+1,h=>by
   by_cases e:a=b+1
   ·rw[e];exact aF _
   ·have:=Y0x (show a<=b by omega);show Y9i a<=Y9i b+_;omega
theorem Y6o{Ts:Nat->TrD}{t:Nat}(h:∀i,i<5->potT (Ts i)<=t):∀k,k<=5->X0p Ts k<=k*((t+17)/9)
 | 0,_=>Nat.zero_le _
 | k+1,hk=>by
   have h1:=Y6o h k (by omega);have h3:=h k (by omega);have h4:Y4p (Ts k)<=(t+17)/9:=by unfold Y4p;omega
   show X0p Ts k+Y4p (Ts k)<=_;rw[Nat.succ_mul];omega
theorem Soil.dirty{n:Nat}{C S:StoreD}(h:Soil n C S)(N:Nat):(Z2i N S.dirty).length<=n+2:=by
 obtain⟨L,hL,h1⟩:=h.list;have hsub:Z2i N S.dirty ⊆ 0::1::L:=fun b hb=>by
  obtain⟨_,h2⟩:=Z8b.1 hb;by_cases h0:b<2
  ·rcases(show b=0\/b=1 by omega)with rfl | rfl<;>simp
  ·have:=h1 b (by omega) (.inl (fun e=>by rw[e]at h2;cases h2));simp[this]
 have:=(Y2e N S.dirty).length_le_of_subset hsub;simp only[List.length_cons]at this;omega
theorem Soil.start(n room:Nat):Soil 0 (Z1j n room) (Z1j n room):=by
 refine⟨rfl,[],aF _,fun b h2 hq=> ?_⟩;exfalso;rcases hq with q | q
 ·apply q;show updI (updI X0c 0 _) 1 _ (b:Int)=none;rw[Z3m _ _ (by omega),Z3m _ _ (by omega)];rfl
 ·unfold Z1j at q;rw[Z9k]at q;have:=of_decide_eq_true q;omega
theorem X3s(ts:Nat->Nat)(w:World){k:Nat}(hk:k<5):Sem.run Tryz.prog (Instr.index 172 (.agg #[tp (ts 0),tp (ts 1),tp (ts 2),tp (ts 3),tp (ts 4)]) (.int .i64 (k:Nat))) w= .ok (tp (ts k)) w:=by
 rcases(show k=0\/k=1\/k=2\/k=3\/k=4 from by omega)with rfl | rfl | rfl | rfl | rfl
 ·exact V0d ts w
 ·exact V0c ts w
 ·exact V0b ts w
 ·exact V0a ts w
 ·exact X9z ts w
def Acc(S:StoreD)(Ts:Nat->TrD):Prop:=∀b,2<=b->Z0z S b=true->∃i,i<5/\b∈(Ts i).pages
theorem Acc.del{S S':StoreD}{Ts:Nat->TrD}{i:Nat}{k:ByteArray}{T':TrD}(h:Acc S Ts)(hi:i<5)(hp:Z9h S i k S' T' (Ts i))(hf:Fm S)(ht:TrS S i (Ts i))(hk:∃x∈(Ts i).list,x.1=k):Acc S' (updF Ts i T'):=fun b hb hu=>by
 obtain⟨G,hl⟩:=Y4u (by omega) hp hf ht hk;obtain⟨h1,h2⟩:=(hl.big.used b).1 hu;obtain⟨j,hj,hm⟩:=h b hb (h1.resolve_right (by simp));refine⟨j,hj,?_⟩;by_cases e:j=i
 ·subst e;rw[Z0t];exact(List.mem_append.1 (hl.pages.mem_iff.2 hm)).resolve_right h2
 ·rw[Z0o _ _ e];exact hm
theorem Acc.put{S S':StoreD}{Ts:Nat->TrD}{i:Nat}{k v:ByteArray}{T':TrD}(h:Acc S Ts)(hi:i<5)(hp:Y1x S i k v S' T' (Ts i))(hf:Fm S)(ht:TrS S i (Ts i))(hk:Z3a k)(hv:v.size<=80):Acc S' (updF Ts i T'):=fun b hb hu=>by
 obtain⟨F,hl⟩:=Y3r (by omega) hp hf ht hk hv;rcases((hl.big.used b).1 hu).1 with q | q
 ·obtain⟨j,hj,hm⟩:=h b hb q;refine⟨j,hj,?_⟩;by_cases e:j=i
  ·subst e;rw[Z0t];exact hl.pages.mem_iff.2 (List.mem_append_left _ hm)
  ·rw[Z0o _ _ e];exact hm
 ·exact⟨i,hi,by rw[Z0t];exact hl.pages.mem_iff.2 (List.mem_append_right _ q)⟩
structure DelZ (tb p:Nat) (ts:Nat->Nat) (A:StoreD) (Ts0:Nat->TrD) (L:Nat->List OpD) (o:OpD) (R:Nat) (F0:Nat->Prop) (w:World) (k:Nat) (wr:World) (S:StoreD) (Ts:Nat->TrD) (F:Nat->Prop):Prop extends DelK tb p ts Ts0 L o R F0 w k wr S Ts F where
 soil:∀n C,Soil n C A->Soil n C S
 acc:Acc A Ts0->Acc S Ts
theorem X6j{tb p:Nat}{ts:Nat->Nat}{F:Nat->Prop}{S0:StoreD}{Ts0:Nat->TrD}{L:Nat->List OpD}(o:OpD)(w:World)(ht:TblAt w tb p ts F)(hp:PagerAt w p F S0)
 (hT:Tab S0 Ts0 L)(ho:∀i,i<5->o∈L i)(hd:∀i,i<5->depT (Ts0 i)<=31):
  Calls Tryz.prog 71 #[.pointer (some ⟨tb,0,none⟩),.int .i64 o.id] w fun e w'=>e= .returned (.int .i64 0)/\∃S' Ts' F',DelZ tb p ts S0 Ts0 L o (Z0x S0) F w 5 w' S' Ts' F':=by
 have hck:=hT.ok 0 (by omega) o (ho 0 (by omega));have hin:=OpIn.of hck;have cG:Calls Tryz.prog 72 #[.pointer (some ⟨tb,0,none⟩),.int .i64 o.id] w fun e w'=>e= .returned (.tuple #[.agg #[.int .i64 o.id,.int .i64 o.proc,.int .i64 o.object,.int .i64 o.kind,.int .i64 o.method,.int .i64 o.arg,.int .i64 o.second,.bool o.done,.int .i64 o.result,.int .i64 o.invoke,.int .i64 o.ret],.int .i64 0])/\∃F',TblAt w' tb p ts F'/\PagerAt w' p F' S0/\Keeps F F' w w'/\∀i,F' i->i<w'.heap.size:=by have h1:=Z7v o.id w ht hp hT (hd 0 (by omega)) (by have:=hin.id;unfold In64;omega);rw[V2v (hT.ids 0 (by omega)) (ho 0 (by omega))]at h1;refine h1.mono ?_;rintro e w' ⟨rfl,F',q1,q2,q3⟩;exact⟨rfl,fun i=>F' i/\i<w'.heap.size,⟨q1.row,q1.tree,fun q=>q1.out q.1,fun j hj q=>q1.outs j hj q.1⟩,q2.shrink,q3.shrink,fun i q=>q.2⟩
 have cW:Hid (∀i W,i<5->Calls Tryz.prog 89 #[.int .i64 (i:Nat),.agg #[.int .i64 o.id,.int .i64 o.proc,.int .i64 o.object,.int .i64 o.kind,.int .i64 o.method,.int .i64 o.arg,.int .i64 o.second,.bool o.done,.int .i64 o.result,.int .i64 o.invoke,.int .i64 o.ret]] W fun e w'=>e= .returned (.string (wayK i o))/\Ext W w'):=fun i W hi=>Z5p i o W hi (hin.way i);have HO:=hD ho;have HD:=hD hd;have HTAB:=hD hT;generalize hR:Z0x S0=R at *;have HRR:Hid (Z0x S0=R):=hR;clear hd hT hR ht hp hin ho hck;have cDel:Hid (∀(F0:Nat->Prop) (W0:World) k,k<5->∀(W wr:World) (S1:StoreD) (Ts1:Nat->TrD) (F1:Nat->Prop),DelZ tb p ts S0 Ts0 L o R F0 W0 k wr S1 Ts1 F1->Ext wr W->Calls Tryz.prog 31 #[.pointer (some ⟨ts k,0,none⟩),.string (wayK k o)] W fun e w'=>e= .returned (.int .i64 0)/\∃S' Ts' F',DelZ tb p ts S0 Ts0 L o R F0 W0 (k+1) w' S' Ts' F'):=fun F0 W0 k hk W wr S1 Ts1 F1 h hW=>by have hsame:=h.same k (aF _);have hdk:=HD.out k hk;have hin:∃x∈(Ts1 k).list,x.1=wayK k o:=⟨_,(h.tab.mem k hk _).2 ⟨o,by rw[if_neg (Nat.lt_irrefl _)];exact HO.out k hk,rfl⟩,rfl⟩;refine(V4y (Ts1 k) (wayK k o) W ((h.at_.ext hW).tree k hk) (h.at_.outs k hk) (h.pag.ext hW) h.tab.fm (by omega) (h.tab.tr k hk) (by rw[hsame];exact Z4m hdk) hin).mono ?_;rintro e w' ⟨rfl,S',T',F',hp,hp',hkp⟩;exact⟨rfl,S',_,F',⟨h.step hk (HO.out k hk) hp hp' ((Keeps.of hW).trans hkp),fun n C q=>(h.soil n C q).del (by omega) hp h.tab.fm (h.tab.tr k hk) hin,fun q=>(h.acc q).del hk hp h.tab.fm (h.tab.tr k hk) hin⟩⟩
 go_enter Tryz.func71,Tryz.ntmps71;go_upto_region 4 with (go_at_call 72;(with_reducible refine cG.mono ?_);clear cG;rintro e w1 ⟨rfl,F1,ht1,hp1,hk1,hl1⟩;have HT1:=hD ht1;have HP1:=hD hp1;have HK1:=hD hk1;have HL1:=hD hl1;clear ht1 hp1 hk1 hl1);generalize hB:w1.heap.size=B at *;generalize hW2:World.alloc w1 _=W2;have HX2:Hid (Ext w1 W2):=by unfold Hid;rw[<-hW2];exact Ext.alloc _ _
 have HR0:Hid (Row1 W2 B 73 o.cells):=by unfold Hid;rw[<-hW2,<-hB];exact Row1.made w1 _ _
 have HLT:Hid (¬F1 B):=fun q=>by have:=HL1.out B q;omega
 have HWID:Hid (∀(F':Nat->Prop) (w':World),Keeps F1 F' W2 w'->Keeps F F' w w'):=fun F' w' h=>(HK1.out.ext HX2.out).trans h;have HPK:Hid (DelZ tb p ts S0 Ts0 L o R F1 W2 0 W2 S0 Ts0 F1):=⟨⟨HT1.out.ext HX2.out,HP1.out.ext HX2.out,Keeps.refl,HTAB.out.congr (fun i _=>rfl) (fun i _=>rfl),fun i hi=>absurd hi (by omega),fun i _=>rfl,fun i=>aF _,fun i=>aF _,by rw[HRR.out]⟩,fun n C q=>q,fun q=>q⟩;have t0:W2.cell? ⟨tb,0,none⟩=some (tp (ts 0)):=HPK.out.at_.row.cell 0;have t1:W2.cell? ⟨tb,1,none⟩=some (tp (ts 1)):=HPK.out.at_.row.cell 1;have t2:W2.cell? ⟨tb,2,none⟩=some (tp (ts 2)):=HPK.out.at_.row.cell 2;have t3:W2.cell? ⟨tb,3,none⟩=some (tp (ts 3)):=HPK.out.at_.row.cell 3;have t4:W2.cell? ⟨tb,4,none⟩=some (tp (ts 4)):=HPK.out.at_.row.cell 4;clear hW2 hB HK1 HL1 HT1 HP1 HX2;go_wp2_with fail;clear t0 t1 t2 t3 t4
 go_loopw [23] (fun x wr=>∃(k:Nat) (S1:StoreD) (Ts1:Nat->TrD) (F2:Nat->Prop),k<=5/\x= .int .i64 (k:Nat)/\DelZ tb p ts S0 Ts0 L o R F1 W2 k wr S1 Ts1 F2) (fun x _=>5-(intOf x).toNat)
 case atStart=>exact⟨0,S0,Ts0,F1,by omega,rfl,HPK.out⟩
 case round=>
  obtain⟨k,S1,Ts1,F2,hk,rfl,hpk⟩:=hrel;have HP:=hD hpk;clear hpk;obtain⟨b0,b1,b2,b3,b4,b5,b6,b7,b8,b9,b10⟩:=At11.row (HP.out.keep.only.row HR0.out HLT.out);by_cases hk5:k=5
  ·subst hk5;go_wp2_with fail;go_ret;have h1:=HP.out;exact⟨rfl,S1,Ts1,F2,⟨h1.at_,h1.pag,HWID.out _ _ h1.keep,h1.tab,h1.done,h1.same,h1.dep,h1.less,h1.room⟩,h1.soil,h1.acc⟩
  ·have hk4:k<5:=by omega
   have q1:decide ((k:Int)<5)=true:=aN;have q2:(k:Int)<5:=by omega
   have cP:Hid (∀W,Ext wr W->Calls Tryz.prog 31 #[.pointer (some ⟨ts k,0,none⟩),.string (wayK k o)] W fun e w'=>e= .returned (.int .i64 0)/\∃S' Ts' F',DelZ tb p ts S0 Ts0 L o R F1 W2 (k+1) w' S' Ts' F'):=fun W hW=>cDel.out _ _ k hk4 W wr S1 Ts1 F2 HP.out hW;have cW1:Hid (∀W,Calls Tryz.prog 89 #[.int .i64 (k:Nat),.agg #[.int .i64 o.id,.int .i64 o.proc,.int .i64 o.object,.int .i64 o.kind,.int .i64 o.method,.int .i64 o.arg,.int .i64 o.second,.bool o.done,.int .i64 o.result,.int .i64 o.invoke,.int .i64 o.ret]] W fun e w'=>e= .returned (.string (wayK k o))/\Ext W w'):=fun W=>cW.out k W hk4;generalize wayK k o=ky at cP cW1;have hix:=X3s ts wr hk4;generalize hTK:ts k=tk at cP hix;clear cW cDel hTK hk5;go_wp2_with (first
    | (go_at_call 89;(with_reducible refine(cW1.out _).mono ?_);clear cW1;rintro e w2 ⟨rfl,hb2⟩)
    | (go_at_call 31;(with_reducible refine(cP.out _ hb2).mono ?_);clear cP;rintro e w3 ⟨rfl,S3,Ts3,F3,hp3⟩;have HP3:=hD hp3;clear hp3))
   go_roundw
   case rel=>exact⟨k+1,S3,Ts3,F3,by omega,by go_num,HP3.out⟩
   case measure=>simp[intOf];omega
structure PutZ (tb p:Nat) (ts:Nat->Nat) (A:StoreD) (Ts0:Nat->TrD) (L:Nat->List OpD) (o:OpD) (R:Nat) (F0:Nat->Prop) (w:World) (k:Nat) (wr:World) (S:StoreD) (Ts:Nat->TrD) (F:Nat->Prop):Prop extends PutK tb p ts Ts0 L o R F0 w k wr S Ts F where
 soil:(∀i,i<5->Slim (Ts0 i))->∀n C,Soil n C A->Soil (n+X0p Ts0 k) C S
 acc:Acc A Ts0->Acc S Ts
theorem Y9d{tb p:Nat}{ts:Nat->Nat}{F:Nat->Prop}{S0:StoreD}{L:Nat->List OpD}(Q:StoreD->(Nat->TrD)->Prop)(o:OpD)(w:World)(ht:TblAt w tb p ts F)(hp:PagerAt w p F S0)(ho:Z1s o=0)
 (hdel:∀(W:World) (F1:Nat->Prop),TblAt W tb p ts F1->PagerAt W p F1 S0->Calls Tryz.prog 71 #[.pointer (some ⟨tb,0,none⟩),.int .i64 o.id] W fun e w'=>∃ev S Ts0,(ev=0\/ev=6)/\e= .returned (.int .i64 ev)/\Q S Ts0/\∃F',TblAt w' tb p ts F'/\PagerAt w' p F' S/\Keeps F1 F' W w')
 (hQ:∀S Ts0,Q S Ts0->Tab S Ts0 L/\(∀i,i<5->depT (Ts0 i)<=31)/\Z4x Ts0 5<=Z0x S)(hno:∀i,i<5->∀x∈L i,x.id≠o.id):
  Calls Tryz.prog 69 #[.pointer (some ⟨tb,0,none⟩),o.val] w fun e w'=>e= .returned (.int .i64 0)/\∃S Ts0,Q S Ts0/\∃S' Ts' F',PutZ tb p ts S Ts0 L o (Z0x S) F w 5 w' S' Ts' F':=by
 have hin:=OpIn.of ho;have HOK:=hD ho;obtain⟨W0,hW0⟩:∃W0,w.alloc (.cells #[.int .i64 o.id,.int .i64 o.proc,.int .i64 o.object,.int .i64 o.kind,.int .i64 o.method,.int .i64 o.arg,.int .i64 o.second,.bool o.done,.int .i64 o.result,.int .i64 o.invoke,.int .i64 o.ret] 73)=W0:=⟨_,rfl⟩;have HX0:Hid (Ext w W0):=by unfold Hid;rw[<-hW0];exact Ext.alloc _ _
 have HR0:Hid (Row1 W0 w.heap.size 73 o.cells):=by unfold Hid;rw[<-hW0];exact Row1.made w _ _
 have HT0:Hid (TblAt W0 tb p ts (fun i=>F i/\i<w.heap.size)):=TblAt.ext (F:=fun i=>F i/\i<w.heap.size) ⟨ht.row,ht.tree,fun q=>ht.out q.1,fun j hj q=>ht.outs j hj q.1⟩ HX0.out;have HP0:Hid (PagerAt W0 p (fun i=>F i/\i<w.heap.size) S0):=PagerAt.ext (F:=fun i=>F i/\i<w.heap.size) hp.shrink HX0.out;have HWID:Hid (∀(F':Nat->Prop) (w':World),Keeps (fun i=>F i/\i<w.heap.size) F' W0 w'->Keeps F F' w w'):=fun F' w' h=>((Keeps.of HX0.out).trans h).widen (fun i q=>q.1);have HLT:Hid (¬(fun i=>F i/\i<w.heap.size) w.heap.size):=fun q=>absurd q.2 (Nat.lt_irrefl _);generalize (fun i=>F i/\i<w.heap.size)=F0 at *;have HRES:=hin.result;have cE:Hid (∀W,Calls Tryz.prog 131 #[.agg #[.int .i64 o.id,.int .i64 o.proc,.int .i64 o.object,.int .i64 o.kind,.int .i64 o.method,.int .i64 o.arg,.int .i64 o.second,.bool o.done,.int .i64 o.result,.int .i64 o.invoke,.int .i64 o.ret]] W fun e w'=>e= .returned (.tuple #[.string (bts (opL o)),.int .i64 0])/\Ext W w'):=fun W=>by have h1:=Z7f o W (by omega);rw[ho,if_pos rfl]at h1;exact h1
 have cM:Hid (∀W,Ext W0 W->Calls Tryz.prog 85 #[.pointer (some ⟨tb,0,none⟩)] W fun e w'=>e= .returned (.bool true)/\W=w'):=fun W hW=>Z2f W (HT0.out.ext hW).row;have cD:Hid (∀W,Ext W0 W->Calls Tryz.prog 71 #[.pointer (some ⟨tb,0,none⟩),.int .i64 o.id] W fun e w'=>∃ev S Ts0,(ev=0\/ev=6)/\e= .returned (.int .i64 ev)/\Q S Ts0/\∃F',TblAt w' tb p ts F'/\PagerAt w' p F' S/\Keeps F0 F' W w'):=fun W hW=>hdel W F0 (HT0.out.ext hW) (HP0.out.ext hW);have cW:Hid (∀i W,i<5->Calls Tryz.prog 89 #[.int .i64 (i:Nat),.agg #[.int .i64 o.id,.int .i64 o.proc,.int .i64 o.object,.int .i64 o.kind,.int .i64 o.method,.int .i64 o.arg,.int .i64 o.second,.bool o.done,.int .i64 o.result,.int .i64 o.invoke,.int .i64 o.ret]] W fun e w'=>e= .returned (.string (wayK i o))/\Ext W w'):=fun i W hi=>Z5p i o W hi (hin.way i);have HNO:=hD hno;have HQ:=hD hQ;clear hdel hno hQ ht hp hin ho;have cPut0:Hid (∀S Ts0 R,Q S Ts0->Z0x S=R->∀k,k<5->∀(W wr:World) (S1:StoreD) (Ts1:Nat->TrD) (F1:Nat->Prop),PutZ tb p ts S Ts0 L o R F0 W0 k wr S1 Ts1 F1->Ext wr W->Calls Tryz.prog 34 #[.pointer (some ⟨ts k,0,none⟩),.string (wayK k o),.string (recW k o)] W fun e w'=>e= .returned (.int .i64 0)/\∃S' Ts' F',PutZ tb p ts S Ts0 L o R F0 W0 (k+1) w' S' Ts' F'):=fun S Ts0 R hq hRR k hk W wr S1 Ts1 F1 h hW=>by obtain⟨_,jH,hR⟩:=HQ.out S Ts0 hq;rw[hRR]at hR;have hsame:=h.same k (aF _);have hneed:=Y8a Ts0 k 5 hk;have hdk:=jH k hk;have hr:=h.room;have hrs:=Z9t k (OpIn.of HOK.out);refine(X3l (Ts1 k) (wayK k o) (recW k o) W ((h.at_.ext hW).tree k hk) (h.at_.outs k hk) (h.pag.ext hW) (by omega) h.tab.fm (h.tab.tr k hk) (Z6w k o) hrs (by rw[hsame];omega) (by rw[hsame];exact Z4m hdk)).mono ?_;rintro e w' ⟨rfl,S',T',hp,F',hp',hkp⟩;refine⟨rfl,S',_,F',⟨h.step hk HOK.out (HNO.out k hk) hp hp' ((Keeps.of hW).trans hkp),fun hs n C q=> ?_,fun q=>(h.acc q).put hk hp h.tab.fm (h.tab.tr k hk) (Z6w k o) hrs⟩⟩;have hz1:=(h.soil hs n C q).put (by omega) hp h.tab.fm (h.tab.tr k hk) (Z6w k o) hrs (X8u k o) (by rw[hsame];exact hs k hk);rw[hsame,Nat.add_assoc]at hz1;exact hz1
 go_enter Tryz.func69,Tryz.ntmps69;go_upto_region 1 with fail;clear hW0;obtain⟨b0,b1,b2,b3,b4,b5,b6,b7,b8,b9,b10⟩:=At11.row HR0.out;go_upto_region 7 with (first
  | (go_at_call 131;(with_reducible refine(cE.out _).mono ?_);clear cE;rintro e w1 ⟨rfl,hb1⟩;have b0:=(At11.row (HR0.out.ext hb1 HR0.out.lt)).1;have HB1:=hD hb1;clear hb1)
  | (go_at_call 85;(with_reducible refine(cM.out _ HB1.out).mono ?_);clear cM;rintro e w2 ⟨rfl,rfl⟩)
  | (go_at_call 71;(with_reducible refine(cD.out _ HB1.out).mono ?_);clear cD;rintro e w3 ⟨ev,S,Ts0,hev,rfl,hq3,F3,ht3,hp3,hk3⟩;have HQ3:=hD hq3;clear hq3;have HT3:=hD ht3;have HP3:=hD hp3;have HK3:Hid (Keeps F0 F3 W0 w3):=(Keeps.of HB1.out).trans hk3;clear ht3 hp3 hk3))
 have HTAB:Hid (Tab S Ts0 L):=(HQ.out S Ts0 HQ3.out).1;obtain⟨R,hR⟩:∃R,Z0x S=R:=⟨_,rfl⟩;have HRR:Hid (Z0x S=R):=hR;have cPut:Hid (∀k,k<5->∀(W wr:World) (S1:StoreD) (Ts1:Nat->TrD) (F1:Nat->Prop),PutZ tb p ts S Ts0 L o R F0 W0 k wr S1 Ts1 F1->Ext wr W->Calls Tryz.prog 34 #[.pointer (some ⟨ts k,0,none⟩),.string (wayK k o),.string (recW k o)] W fun e w'=>e= .returned (.int .i64 0)/\∃S' Ts' F',PutZ tb p ts S Ts0 L o R F0 W0 (k+1) w' S' Ts' F'):=cPut0.out S Ts0 R HQ3.out hR;clear hR cPut0;have HPK:Hid (PutZ tb p ts S Ts0 L o R F0 W0 0 w3 S Ts0 F3):=⟨⟨HT3.out,HP3.out,HK3.out,HTAB.out.congr (fun i _=>rfl) (fun i _=>rfl),fun i hi=>absurd hi (by omega),fun i _=>rfl,by rw[HRR.out];exact aF _⟩,fun _ n C q=>q,fun q=>q⟩;have t0:w3.cell? ⟨tb,0,none⟩=some (tp (ts 0)):=HT3.out.row.cell 0;have t1:w3.cell? ⟨tb,1,none⟩=some (tp (ts 1)):=HT3.out.row.cell 1;have t2:w3.cell? ⟨tb,2,none⟩=some (tp (ts 2)):=HT3.out.row.cell 2;have t3:w3.cell? ⟨tb,3,none⟩=some (tp (ts 3)):=HT3.out.row.cell 3;have t4:w3.cell? ⟨tb,4,none⟩=some (tp (ts 4)):=HT3.out.row.cell 4;clear b0 b1 b2 b3 b4 b5 b6 b7 b8 b9 b10
 go_cut [7,32] (fun _ v wx=>v= .bool false/\wx=w3)
 case first=>
  rcases hev with rfl | rfl
  ·go_wp2_with fail
   go_meet
   exact⟨rfl,rfl⟩
  ·go_wp2_with fail
   go_meet
   exact⟨rfl,rfl⟩
 case rest=>
 obtain⟨rfl,rfl⟩:=hcut;go_wp2_with fail;clear t0 t1 t2 t3 t4
 go_loopw [38] (fun x wr=>∃(k:Nat) (S1:StoreD) (Ts1:Nat->TrD) (F1:Nat->Prop),k<=5/\x= .int .i64 (k:Nat)/\PutZ tb p ts S Ts0 L o R F0 W0 k wr S1 Ts1 F1) (fun x _=>5-(intOf x).toNat)
 case atStart=>exact⟨0,S,Ts0,F3,by omega,rfl,HPK.out⟩
 case round=>
  obtain⟨k,S1,Ts1,F1,hk,rfl,hpk⟩:=hrel;have HP:=hD hpk;clear hpk;obtain⟨b0,b1,b2,b3,b4,b5,b6,b7,b8,b9,b10⟩:=At11.row (HP.out.keep.only.row HR0.out HLT.out);by_cases hk5:k=5
  ·subst hk5;go_wp2_with fail;go_ret;have h1:=HP.out;refine⟨rfl,S,Ts0,HQ3.out,S1,Ts1,F1,?_⟩;rw[HRR.out];exact⟨⟨h1.at_,h1.pag,HWID.out _ _ h1.keep,h1.tab,h1.done,h1.same,h1.room⟩,h1.soil,h1.acc⟩
  ·have hk4:k<5:=by omega
   have q1:decide ((k:Int)<5)=true:=aN;have q2:(k:Int)<5:=by omega
   have cP:Hid (∀W,Ext wr W->Calls Tryz.prog 34 #[.pointer (some ⟨ts k,0,none⟩),.string (wayK k o),.string (recW k o)] W fun e w'=>e= .returned (.int .i64 0)/\∃S' Ts' F',PutZ tb p ts S Ts0 L o R F0 W0 (k+1) w' S' Ts' F'):=fun W hW=>cPut.out k hk4 W wr S1 Ts1 F1 HP.out hW;have cW1:Hid (∀W,Calls Tryz.prog 89 #[.int .i64 (k:Nat),.agg #[.int .i64 o.id,.int .i64 o.proc,.int .i64 o.object,.int .i64 o.kind,.int .i64 o.method,.int .i64 o.arg,.int .i64 o.second,.bool o.done,.int .i64 o.result,.int .i64 o.invoke,.int .i64 o.ret]] W fun e w'=>e= .returned (.string (wayK k o))/\Ext W w'):=fun W=>cW.out k W hk4;generalize wayK k o=ky at cP cW1;have hix:=X3s ts wr hk4;generalize hTK:ts k=tk at cP hix;clear cW cPut hTK hk5;by_cases hk0:k=0
   ·have q3:((k:Int)==0)=true:=by simp[hk0]
    have q4:decide ((k:Int)=0)=true:=aN;rw[show recW k o=bts (opL o)from if_pos hk0]at cP;clear hk0;go_wp2_with (first
     | (go_at_call 89;(with_reducible refine(cW1.out _).mono ?_);clear cW1;rintro e w2 ⟨rfl,hb2⟩)
     | (go_at_call 34;(with_reducible refine(cP.out _ hb2).mono ?_);clear cP;rintro e w3 ⟨rfl,S3,Ts3,F3,hp3⟩;have HP3:=hD hp3;clear hp3))
    go_roundw
    case rel=>exact⟨k+1,S3,Ts3,F3,by omega,by go_num,HP3.out⟩
    case measure=>simp[intOf];omega
   ·have q3:((k:Int)==0)=false:=by simp[hk0]
    have q4:decide ((k:Int)=0)=false:=aM;have q5:¬(k:Int)=0:=by omega
    rw[show recW k o=⟨#[]⟩from if_neg hk0]at cP;clear hk0;go_wp2_with (first
     | (go_at_call 89;(with_reducible refine(cW1.out _).mono ?_);clear cW1;rintro e w2 ⟨rfl,hb2⟩)
     | (go_at_call 34;(with_reducible refine(cP.out _ hb2).mono ?_);clear cP;rintro e w3 ⟨rfl,S3,Ts3,F3,hp3⟩;have HP3:=hD hp3;clear hp3))
    go_roundw
    case rel=>exact⟨k+1,S3,Ts3,F3,by omega,by go_num,HP3.out⟩
    case measure=>simp[intOf];omega
structure DelY (S0:StoreD) (Ts0:Nat->TrD) (l:List OpD) (id:Int) (S:StoreD) (Ts:Nat->TrD):Prop extends DelB S0 Ts0 l id S Ts where
 soil:∀n C,Soil n C S0->Soil n C S
 acc:Acc S0 Ts0->Acc S Ts
theorem Y3g{tb p:Nat}{ts:Nat->Nat}{F:Nat->Prop}{S0:StoreD}{Ts0:Nat->TrD}{l:List OpD}(id:Int)(w:World)(ht:TblAt w tb p ts F)(hp:PagerAt w p F S0)
 (hT:Tab S0 Ts0 (fun _=>l))(hd:∀i,i<5->depT (Ts0 i)<=31)(hid:In64 id):
  Calls Tryz.prog 71 #[.pointer (some ⟨tb,0,none⟩),.int .i64 id] w fun e w'=>e= .returned (.int .i64 (delE l id))/\∃S Ts,DelY S0 Ts0 l id S Ts/\∃F',TblAt w' tb p ts F'/\PagerAt w' p F' S/\Keeps F F' w w':=by
 cases hg:getL l id with
 | none=>
   refine(Y3f id w ht hp hT (hd 0 (by omega)) hid hg).mono ?_;rintro e w' ⟨rfl,h⟩;exact⟨by unfold delE;rw[hg];rfl,S0,Ts0,⟨⟨by rw[V3s hg];exact hT,fun _=>aF _,fun _=>aF _,rfl,.inl ⟨rfl,hg⟩⟩,fun n C h=>h,fun h=>h⟩,h⟩
 | some o=>
   have h0:=hg;unfold getL at h0;have hm:=List.mem_of_find?_eq_some h0;have hi:o.id=id:=by have:=List.find?_some h0;simpa using this
   subst hi;refine(X6j (L:=fun _=>l) o w ht hp hT (fun _ _=>hm) hd).mono ?_;rintro e w' ⟨rfl,S,Ts,F',h⟩;refine⟨by unfold delE;rw[hg];rfl,S,Ts,⟨⟨h.tab.congr (fun _ _=>rfl) (fun i hi=> ?_),h.dep,h.less,h.room,.inr ⟨o,hg,h.done⟩⟩,h.soil,h.acc⟩,F',h.at_,h.pag,h.keep⟩;rw[if_pos hi]
structure PutY (S0:StoreD) (Ts0:Nat->TrD) (l:List OpD) (o:OpD) (S:StoreD) (Ts:Nat->TrD):Prop where
 tab:Tab S Ts (fun _=>o::delO l o.id)
 via:∃S1 Ts1,DelY S0 Ts0 l o.id S1 Ts1/\(∀i,i<5->U1h i o (Ts1 i) (Ts i))/\Z0x S1<=Z0x S+Z4x Ts1 5/\((∀i,i<5->Slim (Ts1 i))->∀n C,Soil n C S1->Soil (n+X0p Ts1 5) C S)/\(Acc S1 Ts1->Acc S Ts)
theorem X1l{tb p:Nat}{ts:Nat->Nat}{F:Nat->Prop}{S0:StoreD}{Ts0:Nat->TrD}{l:List OpD}(o:OpD)(w:World)(ht:TblAt w tb p ts F)(hp:PagerAt w p F S0)(ho:Z1s o=0)
 (hT:Tab S0 Ts0 (fun _=>l))(hd:∀i,i<5->depT (Ts0 i)<=31)(hr:Z4x Ts0 5<=Z0x S0):
  Calls Tryz.prog 69 #[.pointer (some ⟨tb,0,none⟩),o.val] w fun e w'=>e= .returned (.int .i64 0)/\∃S Ts,PutY S0 Ts0 l o S Ts/\∃F',TblAt w' tb p ts F'/\PagerAt w' p F' S/\Keeps F F' w w':=by
 have hid:In64 o.id:=by have:=(OpIn.of ho).id;unfold In64;omega
 refine(Y9d (L:=fun _=>delO l o.id) (DelY S0 Ts0 l o.id) o w ht hp ho (fun W F1 h1 h2=>(Y3g o.id W h1 h2 hT hd hid).mono ?_) (fun S Ts h=>⟨h.tab,fun i hi=>Nat.le_trans (h.dep i) (hd i hi),by have:=h.more;omega⟩) (fun i _ x hx=>(Y0k.1 hx).2)).mono ?_
 ·rintro e w' ⟨rfl,S,Ts,hb,h⟩;refine⟨_,S,Ts,?_,rfl,hb,h⟩;unfold delE;split
  ·exact .inl rfl
  ·exact .inr rfl
 ·rintro e w' ⟨rfl,S1,Ts1,hb,S,Ts,F',h⟩;exact⟨rfl,S,Ts,⟨h.tab.congr (fun _ _=>rfl) (fun i hi=>by rw[if_pos hi]),S1,Ts1,hb,fun i hi=>h.done i hi,h.room,h.soil,h.acc⟩,F',h.at_,h.pag,h.keep⟩
end Go.Proofs.YtohaldfnmgcofaaGreat
