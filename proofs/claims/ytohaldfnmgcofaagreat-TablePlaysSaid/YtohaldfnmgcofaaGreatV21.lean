/- An inner node is written. Conditions: a node that a page holds. -/
import Derived.Test.YtohaldfnmgcofaaGreatV20
set_option maxRecDepth 100000
set_option maxHeartbeats 4000000
set_option linter.unusedSimpArgs false
set_option linter.unusedVariables false
namespace Go.Proofs.YtohaldfnmgcofaaGreat
open Go.RowKit
theorem X0f{n:NodeD}{kv vv cv:Value}(w:World)(h:NodeRd w n kv vv cv)(hn:NodeOk n)(hl:n.leaf=false):
  Calls Tryz.prog 151 #[.agg #[.bool n.leaf,kv,vv,cv]] w fun e w'=>e= .returned (.string (bts (Z2f n)))/\Ext w w':=by
 obtain⟨hvl,hkids⟩:=hn.inner hl;obtain⟨kA,kc,rfl,_,_,hkx⟩:=Z3q h.keys;obtain⟨vA,vc,rfl,_,_,hvx⟩:=Z3q h.vals;obtain⟨cA,cc,rfl,_,_,hcx⟩:=Z9b h.kids;have HCX:=hD hcx;have HKX:=hD hkx;have HVX:=hD hvx;obtain⟨K,hK⟩:∃K,n.keys.length=K:=⟨_,rfl⟩;have HK:=hD hK;have HC:Hid (n.kids.length=K+1):=by unfold Hid;omega
 have HE:Hid (preK n (K+1)=Z2f n):=by unfold Hid;rw[<-HC.out];exact V4q n
 have hK255:K<=255:=by rw[<-hK];exact hn.many
 have HPL:Hid (∀i,i<=K->(preL n i).length<=200000):=fun i hi=>by have:=Y1z n hn i (by omega);omega
 have HPK:Hid (∀j,(preK n j).length<=210000):=fun j=>by have:=V4p n hn j;rw[HC.out]at this;omega
 have HPE:Hid (preK n 0=preL n K):=by unfold Hid preK;rw[hK];simp
 rw[hK,show n.vals.length=0 by rw[hvl];rfl,HC.out,hl];have HN:=hD hn;have HL:=hD hl;have HP0:Hid (preL n 0= [2,UInt8.ofNat K]):=by unfold Hid preL;rw[if_neg (by rw[hl];simp),hK];rfl
 have cB:Hid (∀(m:Nat) (l:List UInt8) W,m<256->BW w W [.bool false,.slice kA K kc,.slice vA 0 vc,.slice cA (K+1) cc] l->l.length<=1000000->Calls Tryz.prog 193 #[.pointer (some ⟨w.heap.size+1,0,none⟩),.int .u8 (m:Int)] W fun e w'=>e= .returned .nilIface/\BW w w' [.bool false,.slice kA K kc,.slice vA 0 vc,.slice cA (K+1) cc] (l++ [UInt8.ofNat m])):=fun m l W hm hb hl=>V7u m hm hb hl;have cS:Hid (∀(s:ByteArray) (l:List UInt8) W,s.size<=1000->BW w W [.bool false,.slice kA K kc,.slice vA 0 vc,.slice cA (K+1) cc] l->l.length<=1000000->Calls Tryz.prog 47 #[.pointer (some ⟨w.heap.size+1,0,none⟩),.string s] W fun e w'=>e= .returned (.tuple #[.int .i64 s.size,.nilIface])/\BW w w' [.bool false,.slice kA K kc,.slice vA 0 vc,.slice cA (K+1) cc] (l++s.data.toList)):=fun s l W hs hb hl=>X4g s hs hb hl;have cT:Hid (∀(l:List UInt8) W,BW w W [.bool false,.slice kA K kc,.slice vA 0 vc,.slice cA (K+1) cc] l->l≠ []->Calls Tryz.prog 49 #[.pointer (some ⟨w.heap.size+1,0,none⟩)] W fun e w'=>e= .returned (.string (bts l))/\Ext w w'):=fun l W hb h0=>V7t hb h0;have HB0:Hid (BW w ((w.alloc (.cells #[.bool false,.slice kA K kc,.slice vA 0 vc,.slice cA (K+1) cc] 166)).alloc (.cells #[.pointer none,.slice none 0 0] 108)) [.bool false,.slice kA K kc,.slice vA 0 vc,.slice cA (K+1) cc] []):=by refine⟨fun i=>i=w.heap.size+1,?_,fun i q=>by omega,by exact Xt,(Row1.made w _ _).alloc _⟩;have:=BldAt.made (w.alloc (.cells #[.bool false,.slice kA K kc,.slice vA 0 vc,.slice cA (K+1) cc] 166));rwa [World.size_alloc]at this
 have HCE:Hid (∀W l,BW w W [.bool false,.slice kA K kc,.slice vA 0 vc,.slice cA (K+1) cc] l->Hid (Ext w W)/\W.cell? ⟨w.heap.size,0,none⟩=some (.bool false)/\W.cell? ⟨w.heap.size,1,none⟩=some (.slice kA K kc)/\W.cell? ⟨w.heap.size,2,none⟩=some (.slice vA 0 vc)/\W.cell? ⟨w.heap.size,3,none⟩=some (.slice cA (K+1) cc)):=fun W l ⟨F,_,_,hx,hr⟩=>⟨hx,hr.cell 0,hr.cell 1,hr.cell 2,hr.cell 3⟩;have u1:IntKind.u8.wrap (K:Int)=K:=by rw[IntKind.wrap_u8];omega
 have q31:(2:Nat)<256:=by omega
 have cB1:Calls Tryz.prog 193 #[.pointer (some ⟨w.heap.size+1,0,none⟩),.int .u8 2] _ fun e w'=>e= .returned .nilIface/\BW w w' [.bool false,.slice kA K kc,.slice vA 0 vc,.slice cA (K+1) cc] [2]:=cB.out 2 [] _ q31 HB0.out (by simp);clear h hkx hvx hcx hn hl hvl hkids hK;go_enter Tryz.func151,Tryz.ntmps151;go_wp2_with (first
  | (go_at_call 193;(with_reducible refine cB1.mono ?_);clear cB1;rintro e w1 ⟨rfl,hb1⟩;obtain⟨HX1,d0,d1,d2,d3⟩:=HCE.out _ _ hb1;have cB2:=cB.out K _ _ (by omega) hb1 (by simp);clear hb1)
  | (go_at_call 193;(with_reducible refine cB2.mono ?_);clear cB2;rintro e w2 ⟨rfl,hb2⟩;obtain⟨HX2,e0,e1,e2,e3⟩:=HCE.out _ _ hb2;have HB2:=hD hb2;clear hb2))
 have HB2:Hid (BW w w2 [.bool false,.slice kA K kc,.slice vA 0 vc,.slice cA (K+1) cc] (preL n 0)):=by rw[HP0.out];exact HB2.out
 clear d0 d1 d2 d3 e0 e1 e2 e3
 go_loopw [21] (fun i wr=>∃k:Nat,k<=K/\i= .int .i64 k/\BW w wr [.bool false,.slice kA K kc,.slice vA 0 vc,.slice cA (K+1) cc] (preL n k)) (fun i _=>K-(intOf i).toNat)
 case atStart=>exact⟨0,by omega,rfl,HB2.out⟩
 case round=>
  obtain⟨k,hk,rfl,hbw⟩:=hrel;have HBW:=hD hbw;obtain⟨HXW,r0,r1,r2,r3⟩:=HCE.out _ _ hbw;clear hbw;by_cases hkl:k<K
  ·have q1:decide ((k:Int)<K)=true:=aN;have q1':decide (k<K)=true:=decide_eq_true hkl;have hkk:k<n.keys.length:=by rw[HK.out];exact hkl
   obtain⟨kb,ko,rfl,hkb,hkc⟩:=HKX.out (by omega);have HCK:=hD (hkc k hkk);have hk1:=HN.out.keys _ (List.getElem_mem hkk);have HST:Hid (preL n (k+1)=preL n k++ [UInt8.ofNat n.keys[k].size]++n.keys[k].data.toList):=by unfold Hid;rw[Y3d];unfold entL;rw[if_neg (by rw[HL.out];simp),aB hkk];simp[lenL]
   obtain⟨x,hx⟩:∃x,n.keys[k]=x:=⟨_,rfl⟩;rw[hx]at HCK hk1 HST;have hpl:=HPL.out k hk;have c0:wr.cell? ⟨kb,ko+k,none⟩=some (.string x):=(HXW.out.cell (p:=⟨kb,ko+k,none⟩) hkb).trans HCK.out;have x1:IntKind.u8.wrap (x.size:Int)=x.size:=by rw[IntKind.wrap_u8];omega
   have cA1:=cB.out x.size _ _ (by omega) HBW.out (by omega);clear hx hkc;go_wp2_with (first
    | (go_at_call 193;(with_reducible refine cA1.mono ?_);clear cA1;rintro e w3 ⟨rfl,hb3⟩;obtain⟨HX3,s0,s1,s2,s3⟩:=HCE.out _ _ hb3;have cA2:=cS.out x _ _ (by omega) hb3 (by rw[aA];simp;omega);clear hb3)
    | (go_at_call 47;(with_reducible refine cA2.mono ?_);clear cA2;rintro e w4 ⟨rfl,hb4⟩;obtain⟨HX4,t0,t1,t2,t3⟩:=HCE.out _ _ hb4;have HB6:=hD hb4;clear hb4))
   go_roundw
   case rel=>exact⟨k+1,by omega,by go_num,by rw[HST.out];exact HB6.out⟩
   case measure=>simp[intOf];omega
  ·obtain rfl:k=K:=by omega
   have q1:decide ((k:Int)<k)=false:=aM;have HB7:=HBW.out;rw[<-HPE.out]at HB7;have HB7:=hD HB7;go_wp2_with fail;clear r0 r1 r2 r3
   go_loopw [52] (fun i wr=>∃j:Nat,j<=k+1/\i= .int .i64 j/\BW w wr [.bool false,.slice kA k kc,.slice vA 0 vc,.slice cA (k+1) cc] (preK n j)) (fun i _=>k+1-(intOf i).toNat)
   case atStart=>exact⟨0,by omega,rfl,HB7.out⟩
   case round=>
    obtain⟨j,hj,rfl,hbw⟩:=hrel;have HBK:=hD hbw;obtain⟨HXK,r0,r1,r2,r3⟩:=HCE.out _ _ hbw;clear hbw;by_cases hjl:j<k+1
    ·have q2:decide ((j:Int)<k+1)=true:=aN;have q2':decide (j<k+1)=true:=decide_eq_true hjl;have hjk:j<n.kids.length:=by rw[HC.out];exact hjl
     obtain⟨cb,co,rfl,hcb,hcc⟩:=HCX.out (by rw[HC.out];omega);have hc0:=HN.out.kids _ (List.getElem_mem hjk);have c0:=(HXK.out.cell (p:=⟨cb,co+j,none⟩) hcb).trans (hcc j hjk);have HST:Hid (preK n (j+1)=preK n j++ [UInt8.ofNat (n.kids[j].toNat%256)]++ [UInt8.ofNat (n.kids[j].toNat/256%256)]):=by unfold Hid;rw[X9j n hjk];simp[kidL]
     obtain⟨c,hc⟩:∃c:Nat,n.kids[j]=c:=⟨n.kids[j].toNat,by omega⟩;rw[hc]at c0 hc0 HST;rw[Int.toNat_natCast]at HST;have hpl:=HPK.out j;obtain⟨b0,hb0⟩:∃b,c%256=b:=⟨_,rfl⟩;obtain⟨b1,hb1⟩:∃b,c/256%256=b:=⟨_,rfl⟩;rw[hb0,hb1]at HST;have hb0l:b0<256:=by omega
     have hb1l:b1<256:=by omega
     have x1:IntKind.u8.wrap (c:Int)=(b0:Int):=by rw[IntKind.wrap_u8];omega
     have x2:IntKind.u8.wrap ((c:Int)/256)=(b1:Int):=by rw[IntKind.wrap_u8];omega
     have cA1:=cB.out b0 _ _ hb0l HBK.out (by omega);clear hb0 hb1;clear hc hcc;go_wp2_with (first
      | (go_at_call 193;(with_reducible refine cA1.mono ?_);clear cA1;rintro e w8 ⟨rfl,hb8⟩;obtain⟨HX8,s0,s1,s2,s3⟩:=HCE.out _ _ hb8;have cA2:=cB.out b1 _ _ hb1l hb8 (by rw[aA];simp;omega);clear hb8)
      | (go_at_call 193;(with_reducible refine cA2.mono ?_);clear cA2;rintro e w9 ⟨rfl,hb9⟩;have HB9:=hD hb9;clear hb9))
     go_roundw
     case rel=>exact⟨j+1,by omega,by go_num,by rw[HST.out];exact HB9.out⟩
     case measure=>simp[intOf];omega
    ·obtain rfl:j=k+1:=by omega
     have q2:decide (((k+1:Nat):Int)<k+1)=false:=aM;have q2':decide (k+1<k+1)=false:=aM;have hne:preK n (k+1)≠ []:=by unfold preK preL;simp
     have cTT:=cT.out _ _ HBK.out hne;rw[HE.out]at cTT;have HTT:=hD cTT;clear cTT hne;go_wp2_with (go_at_call 49;(with_reducible refine HTT.out.mono ?_);rintro e w7 ⟨rfl,hb7⟩);go_ret;exact⟨rfl,hb7⟩
structure PageN (S:StoreD) (a:Nat) (n:NodeD):Prop where
 given:Z0r S a
 ok:NodeOk n
 fits:(Z2f n).length<=256
 view:Z1a S a=padB (bts (Z2f n))
theorem V2b(n:NodeD)(hn:NodeOk n):(Z2l n 0).length=Z0n n.keys+Z0n n.vals:=by
 have h:∀i,i<=n.keys.length->((List.range' 0 i).flatMap (entL n)).length=Z0n (n.keys.take i)+Z0n (n.vals.take i):=fun i=>by
  induction i with
  | zero=>intro _;simp[Z0n]
  | succ i ih=>
    intro hi;rw[List.range'_1_concat,aH,aA,ih (by omega),Z7r _ _ (by omega)];simp only[aI,List.flatMap_nil,List.append_nil,Nat.zero_add];unfold entL;rw[aA,Z7q,aB (show i<n.keys.length by omega)];cases hl:n.leaf with
    | true=>
      have hv:=(hn.leafs hl).1;rw[Z7r _ _ (by omega),if_pos rfl,Z7q,aB (show i<n.vals.length by omega)];simp only[Option.getD_some];omega
    | false=>
      have hv:=(hn.inner hl).1;rw[hv];simp only[Option.getD_some,List.take_nil];simp;omega
 unfold Z2l;rw[Nat.sub_zero,h _ (aF _),List.take_length];cases hl:n.leaf with
 | true=>rw[<-(hn.leafs hl).1,List.take_length]
 | false=>rw[(hn.inner hl).1];simp
theorem V0r(l:List Int):(l.flatMap kidL).length=2*l.length:=by
 induction l with
 | nil=>rfl
 | cons c r ih=>rw[aI,aA,ih,List.length_cons];show 2+_=_;omega
theorem Z6w(n:NodeD)(hn:NodeOk n):(Z2f n).length=Z0m n:=by unfold Z2f;rw[List.length_cons,List.length_cons,aA,V2b n hn];unfold Z5n Z0m;rw[List.drop_zero,V0r];omega
theorem X9o(l:List UInt8)(h:l.length<=256):padB (bts l)=bts (l++List.replicate (256-l.length) 0):=by rw[<-Y2a (bts l) (256-l.length) (by rw[Z0h]) (by rw[Z0h];exact h),Y1e]
theorem X9m(n:NodeD)(tail:List UInt8)(w:World)(hn:NodeOk n)(hsz:(Z2f n).length+tail.length<=100000):
  Calls Tryz.prog 142 #[.string (bts (Z2f n++tail))] w fun e w'=>∃kv vv cv,e= .returned (.tuple #[X1c n kv vv cv,.int .i64 0])/\NodeAs w' (fun i=>w.heap.size<=i) n kv vv cv/\Ext w w':=by
 cases hl:n.leaf with
 | true=>exact X5t n tail w hn hl hsz
 | false=>exact X0y n tail w hn hl hsz
theorem V3h{n:NodeD}{kv vv cv:Value}(w:World)(h:NodeRd w n kv vv cv)(hn:NodeOk n):
  Calls Tryz.prog 151 #[.agg #[.bool n.leaf,kv,vv,cv]] w fun e w'=>e= .returned (.string (bts (Z2f n)))/\Ext w w':=by
 cases hl:n.leaf with
 | true=>have:=X4q w h hn hl;rwa [hl]at this
 | false=>have:=X0f w h hn hl;rwa [hl]at this
abbrev Z0b(w:World)(t p i:Nat):Prop:=Row1 w t 159 [.pointer (some ⟨p,0,none⟩),.int .i64 i]
theorem X9c{fn:Func}(h:fn.results= #[.cell 4 166,.tmp 5])(tmps:Array Value)(w:World)(B:Nat)(n:NodeD)(kv vv cv v:Value)(hB:tmps.getD 4 undef= .pointer (some ⟨B,0,none⟩))(hv:tmps.getD 5 undef=v)(hr:Row1 w B 166 [.bool n.leaf,kv,vv,cv]):
  (results fn tmps).run Tryz.prog w= .ok (.tuple #[X1c n kv vv cv,v]) w:=by
 rw[results_cell_tmp h,hB,hv];have c0:w.cell? ⟨B,0,none⟩=some (.bool n.leaf):=hr.cell 0;have c1:w.cell? ⟨B,1,none⟩=some kv:=hr.cell 1;have c2:w.cell? ⟨B,2,none⟩=some vv:=hr.cell 2;have c3:w.cell? ⟨B,3,none⟩=some cv:=hr.cell 3;unfold X1c
 go_simp
theorem X3j{t p i:Nat}{F:Nat->Prop}{S:StoreD}(a:Nat)(n:NodeD)(w:World)(ht:Z0b w t p i)(h:PagerAt w p F S)(hp:PageN S a n):
  Calls Tryz.prog 82 #[.pointer (some ⟨t,0,none⟩),.int .i64 a] w fun e w'=>∃kv vv cv B F',e= .returned (.tuple #[.agg #[.bool n.leaf,kv,vv,cv],.int .i64 0])/\NodeAs w' (fun i=>B<=i) n kv vv cv/\PagerAt w' p F' S/\Keeps F F' w w'/\w.heap.size<=B/\∀i,F' i->i<B:=by
 have c0:(w.alloc (.cells #[.bool false,.slice none 0 0,.slice none 0 0,.slice none 0 0] 166)).cell? ⟨t,0,none⟩=some (.pointer (some ⟨p,0,none⟩)):=(Row1.alloc ht _).cell 0;have hx0:Ext w (w.alloc (.cells #[.bool false,.slice none 0 0,.slice none 0 0,.slice none 0 0] 166)):=Ext.alloc _ _;have cG:Hid (∀W,Ext w W->Calls Tryz.prog 141 #[.pointer (some ⟨p,0,none⟩),.int .i64 a] W fun e w'=>e= .returned (.tuple #[.string (bts (Z2f n++List.replicate (256-(Z2f n).length) 0)),.int .i64 0])/\∃F',PagerAt w' p F' S/\Keeps (fun i=>F i/\i<w.heap.size) F' W w'):=fun W hW=>by have h1:=V4r a W (h.shrink.ext hW) hp.given;rw[hp.view,X9o _ hp.fits]at h1;exact h1
 have cP:Hid (∀W,Calls Tryz.prog 142 #[.string (bts (Z2f n++List.replicate (256-(Z2f n).length) 0))] W fun e w'=>∃kv vv cv,e= .returned (.tuple #[.agg #[.bool n.leaf,kv,vv,cv],.int .i64 0])/\NodeAs w' (fun i=>W.heap.size<=i) n kv vv cv/\Ext W w'):=fun W=>X9m n _ W hp.ok (by have:=hp.fits;rw[List.length_replicate];omega);generalize bts (Z2f n++List.replicate (256-(Z2f n).length) 0)=s at cG cP;have HR0:Hid (Row1 (w.alloc (.cells #[.bool false,.slice none 0 0,.slice none 0 0,.slice none 0 0] 166)) w.heap.size 166 [.bool false,.slice none 0 0,.slice none 0 0,.slice none 0 0]):=Row1.made w _ _;have HX0:=hD hx0;clear ht h hp hx0;go_enter Tryz.func82,Tryz.ntmps82;go_wp2_with (first
  | (go_at_call 141;(with_reducible refine(cG.out _ HX0.out).mono ?_);clear cG;rintro e w1 ⟨rfl,F1,hp1,k1⟩;have hzz:=k1.only.size;have HR1:=hD (k1.only.row HR0.out (fun q=>by have:=q.2;omega));have HP1:=hD hp1.shrink;have HK1:=hD (Keeps.shrink (P:=fun i=>i<w1.heap.size) k1);clear hp1 k1)
  | (go_at_call 142;(with_reducible refine(cP.out _).mono ?_);clear cP;rintro e w2 ⟨kv,vv,cv,rfl,hn2,hb2⟩;obtain⟨kA,kc,rfl⟩:=OwnL.form hn2.keys;obtain⟨vA,vc,rfl⟩:=OwnL.form hn2.vals;obtain⟨cA,cc,rfl⟩:=OwnL.form hn2.kids;have HN2:=hD hn2;have HB2:=hD hb2;have hR2:=HR1.out.ext hb2 HR1.out.lt;have z0:w2.cell? ⟨w.heap.size,0,none⟩=some (.bool false):=hR2.cell 0;have z1:w2.cell? ⟨w.heap.size,1,none⟩=some (.slice none 0 0):=hR2.cell 1;have z2:w2.cell? ⟨w.heap.size,2,none⟩=some (.slice none 0 0):=hR2.cell 2;have z3:w2.cell? ⟨w.heap.size,3,none⟩=some (.slice none 0 0):=hR2.cell 3;have f0:w2.frozen? ⟨w.heap.size,0,none⟩=false:=hR2.soft 0;have f1:w2.frozen? ⟨w.heap.size,1,none⟩=false:=hR2.soft 1;have f2:w2.frozen? ⟨w.heap.size,2,none⟩=false:=hR2.soft 2;have f3:w2.frozen? ⟨w.heap.size,3,none⟩=false:=hR2.soft 3;have HR2:=hD hR2;clear hn2 hb2 hR2))
 refine bodyPost_ret (X9c rfl _ _ w.heap.size n (.slice kA n.keys.length kc) (.slice vA n.vals.length vc) (.slice cA n.kids.length cc) _ rfl rfl ((((HR2.out.set 0 _).set 1 _).set 2 _).set 3 _)) rfl ?_;have ho:=Y9g (w:=w2) w.heap.size (.bool n.leaf) (.slice kA n.keys.length kc) (.slice vA n.vals.length vc) (.slice cA n.kids.length cc);have hlt:w.heap.size<w1.heap.size:=HR1.out.lt;refine⟨_,_,_,w1.heap.size,fun i=>F1 i/\i<w1.heap.size,rfl,HN2.out.only ho (fun i q q'=>by omega),(HP1.out.ext HB2.out).only ho (fun i q q'=> ?_),?_,by omega,fun i q=>q.2⟩
 ·rcases HK1.out.new i q with r | r
  ·have:=r.2;omega
  ·rw[World.size_alloc]at r;omega
 ·refine⟨?_,fun i q=> ?_⟩
  ·refine(((Only.of HX0.out).trans' (HK1.out.only.mono (fun i q=> .inl q.1))).ext HB2.out).trans (F':=fun i=>i=w.heap.size) ho (fun i q=> .inr (by omega))
  ·rcases HK1.out.new i q with r | r
   ·exact .inl r.1
   ·rw[World.size_alloc]at r;exact .inr (by omega)
def layP(S:StoreD)(a:Nat)(n:NodeD):StoreD:=putP S a (bts (Z2f n))
theorem V0l{t p i:Nat}{F:Nat->Prop}{S:StoreD}(a:Nat)(n:NodeD){kv vv cv:Value}(w:World)(ht:Z0b w t p i)(hnt:¬F t)(h:PagerAt w p F S)(hg:Z0r S a)(hn:NodeOk n)(hs:Z0m n<=256)(hv:NodeRd w n kv vv cv):
  Calls Tryz.prog 92 #[.pointer (some ⟨t,0,none⟩),.int .i64 a,.agg #[.bool n.leaf,kv,vv,cv]] w fun e w'=>e= .returned (.int .i64 0)/\∃F',PagerAt w' p F' (layP S a n)/\Keeps F F' w w':=by
 have hsz:(bts (Z2f n)).size<=256:=by rw[Z0h,Z6w n hn];exact hs
 obtain⟨kA,kc,rfl⟩:=hv.keys.form;obtain⟨vA,vc,rfl⟩:=hv.vals.form;obtain⟨cA,cc,rfl⟩:=hv.kids.form;have cW:Hid (∀W,Ext w W->Calls Tryz.prog 151 #[.agg #[.bool n.leaf,.slice kA n.keys.length kc,.slice vA n.vals.length vc,.slice cA n.kids.length cc]] W fun e w'=>e= .returned (.string (bts (Z2f n)))/\Ext W w'):=fun W hW=>V3h W (hv.ext hW) hn;have cS:Hid (∀W,Ext w W->Calls Tryz.prog 150 #[.pointer (some ⟨p,0,none⟩),.int .i64 a,.string (bts (Z2f n))] W fun e w'=>e= .returned (.int .i64 0)/\∃F',PagerAt w' p F' (layP S a n)/\Keeps (fun i=>F i/\i<w.heap.size) F' W w'):=fun W hW=>V4o a (bts (Z2f n)) W (h.shrink.ext hW) hg hsz;generalize bts (Z2f n)=s at cW cS;obtain⟨lf,hlf⟩:∃lf,n.leaf=lf:=⟨_,rfl⟩;obtain⟨kn,hkn⟩:∃kn,n.keys.length=kn:=⟨_,rfl⟩;obtain⟨vn,hvn⟩:∃vn,n.vals.length=vn:=⟨_,rfl⟩;obtain⟨cn,hcn⟩:∃cn,n.kids.length=cn:=⟨_,rfl⟩;rw[hlf,hkn,hvn,hcn]at cW ⊢;have HKS:Hid (∀W,Only (fun i=>F i/\i<w.heap.size) (w.alloc (.cells #[.bool lf,.slice kA kn kc,.slice vA vn vc,.slice cA cn cc] 166)) W->W.cell? ⟨t,0,none⟩=some (.pointer (some ⟨p,0,none⟩))/\W.cell? ⟨w.heap.size,0,none⟩=some (.bool lf)/\W.cell? ⟨w.heap.size,1,none⟩=some (.slice kA kn kc)/\W.cell? ⟨w.heap.size,2,none⟩=some (.slice vA vn vc)/\W.cell? ⟨w.heap.size,3,none⟩=some (.slice cA cn cc)):=fun W hW=>by have hr:=hW.row (Row1.made w 166 [.bool lf,.slice kA kn kc,.slice vA vn vc,.slice cA cn cc]) (fun q=>by have:=q.2;omega);have h1:Z0b W t p i:=hW.row (Row1.alloc ht _) (fun q=>hnt q.1);exact⟨h1.cell 0,hr.cell 0,hr.cell 1,hr.cell 2,hr.cell 3⟩
 clear ht h hg hn hs hv hsz hlf hkn hvn hcn;go_enter Tryz.func92,Tryz.ntmps92;go_upto_region 1 with fail;refine wp_region_held_drew (S:=fun W=>W.cell? ⟨t,0,none⟩=some (.pointer (some ⟨p,0,none⟩))/\W.cell? ⟨w.heap.size,0,none⟩=some (.bool lf)/\W.cell? ⟨w.heap.size,1,none⟩=some (.slice kA kn kc)/\W.cell? ⟨w.heap.size,2,none⟩=some (.slice vA vn vc)/\W.cell? ⟨w.heap.size,3,none⟩=some (.slice cA cn cc)) (by kernel_rfl) (HKS.out _ (Only.of (by exact Xt))) (fun hHeld=> ?_);refine' tk 0 ?_;refine' tk 1 ?_;refine' tk 2 ?_;refine' tk 3 ?_;refine' tk 4 ?_;refine' tk 5 ?_;refine stp 6 (fun K hK=> ?_);go_simp
 (with_reducible refine(cW.out _ ?_).mono ?_)
 ·exact Xt
 rintro e w1 ⟨rfl,hb1⟩;have HB1:Hid (Ext (w.alloc (.cells #[.bool lf,.slice kA kn kc,.slice vA vn vc,.slice cA cn cc] 166)) w1):=Ext.trans (by exact Xt) hb1;clear hb1
 (try dsimp only)
 (try go_simp)
 refine hK.out _ _ (HKS.out _ (Only.of HB1.out)) (fun hHeld=> ?_);clear hK K;refine pt ?_;refine stp 7 (fun K hK=> ?_);go_simp
 (with_reducible refine(cS.out _ (Ext.trans (Ext.alloc _ _) HB1.out)).mono ?_)
 rintro e w2 ⟨rfl,F2,hp2,hk2⟩;have HP2:=hD hp2;have HB2:Hid (Only (fun i=>F i/\i<w.heap.size) (w.alloc (.cells #[.bool lf,.slice kA kn kc,.slice vA vn vc,.slice cA cn cc] 166)) w2):=(Only.of HB1.out).trans' hk2.only;have HK2:Hid (Keeps F F2 w w2):=Keeps.widen (Keeps.trans (Keeps.of (Ext.trans (Ext.alloc _ _) HB1.out)) hk2) (fun i q=>q.1);clear hp2 hk2
 (try dsimp only)
 (try go_simp)
 refine hK.out _ _ (HKS.out _ HB2.out) (fun hHeld=> ?_);clear hK K;refine pt ?_;refine' tk 8 ?_;refine wpAnyH_done (by kernel_rfl) ?_ _;go_wp2_with fail;go_ret;exact⟨rfl,F2,HP2.out,HK2.out⟩
theorem Y0s{t p i:Nat}{F G:Nat->Prop}{S:StoreD}(a:Nat)(n:NodeD){kv vv cv:Value}(w:World)(ht:Z0b w t p i)(hnt:¬F t)(h:PagerAt w p F S)(hg:Z0r S a)(hn:NodeOk n)(hs:Z0m n<=256)(hv:NodeAs w G n kv vv cv):
  Calls Tryz.prog 92 #[.pointer (some ⟨t,0,none⟩),.int .i64 a,.agg #[.bool n.leaf,kv,vv,cv]] w fun e w'=>e= .returned (.int .i64 0)/\∃F',PagerAt w' p F' (layP S a n)/\Keeps F F' w w':=V0l a n w ht hnt h hg hn hs hv.rd
def Z0g(ks:List ByteArray)(k:ByteArray):Nat:=posB ks k+if hasB ks k=true then 1 else 0
theorem Y2g{n:NodeD}{G:Nat->Prop}{kv vv cv:Value}(k:ByteArray)(w:World)(hv:NodeAs w G n kv vv cv)(hr:Z3e n.keys)(hn:n.keys.length<=1000000):
  Calls Tryz.prog 137 #[.agg #[.bool n.leaf,kv,vv,cv],.string k] w fun e w'=>e= .returned (.int .i64 (Z0g n.keys k))/\Ext w w':=by
 obtain⟨kA,kc,rfl⟩:=OwnL.form hv.keys;obtain⟨vA,vc,rfl⟩:=OwnL.form hv.vals;obtain⟨cA,cc,rfl⟩:=OwnL.form hv.kids;have cB:Hid (∀W,Ext w W->Calls Tryz.prog 138 #[.slice kA n.keys.length kc,.string k] W fun e w'=>e= .returned (.tuple #[.int .i64 (posB n.keys k),.bool (hasB n.keys k)])/\W=w'):=fun W hW=>Z4j k W (hv.keys.ext hW) hr (by omega);have hp:=Y0l n.keys k;have HD:Hid (Z0g n.keys k=posB n.keys k+if hasB n.keys k=true then 1 else 0):=rfl;generalize posB n.keys k=pp at *;generalize hasB n.keys k=hb at *;obtain⟨kn,hkn⟩:∃kn,n.keys.length=kn:=⟨_,rfl⟩;rw[hkn]at cB hp hn ⊢;clear hv hr hkn;cases hb
 ·go_enter Tryz.func137,Tryz.ntmps137;go_wp2_with (go_at_call 138;(with_reducible refine(cB.out _ (Ext.alloc _ _)).mono ?_);clear cB;rintro e w1 ⟨rfl,rfl⟩);go_ret;exact⟨by rw[HD.out];simp,Ext.alloc _ _⟩
 ·go_enter Tryz.func137,Tryz.ntmps137;go_wp2_with (go_at_call 138;(with_reducible refine(cB.out _ (Ext.alloc _ _)).mono ?_);clear cB;rintro e w1 ⟨rfl,rfl⟩);go_ret;exact⟨by rw[HD.out];simp,Ext.alloc _ _⟩
theorem Z3w{t p i:Nat}{F:Nat->Prop}{S:StoreD}(w:World)(ht:Z0b w t p i)(hnt:¬F t)(h:PagerAt w p F S)(hi:i<16):
  Calls Tryz.prog 78 #[.pointer (some ⟨t,0,none⟩)] w fun e w'=>e= .returned (.tuple #[.int .i64 (Z1u S i),.int .i64 0])/\∃F',PagerAt w' p F' S/\Keeps F F' w w':=by
 have c0:w.cell? ⟨t,0,none⟩=some (.pointer (some ⟨p,0,none⟩)):=ht.cell 0;have c1:w.cell? ⟨t,1,none⟩=some (.int .i64 i):=ht.cell 1;have cR:Hid (∀W,Ext w W->Calls Tryz.prog 75 #[.pointer (some ⟨p,0,none⟩),.int .i64 i] W fun e w'=>e= .returned (.tuple #[.int .i64 (Z1u S i),.int .i64 0])/\∃F',PagerAt w' p F' S/\Keeps F F' W w'):=fun W hW=>Y7a i W (h.ext hW) hi;have HKS:Hid (∀W,Only F w W->W.cell? ⟨t,0,none⟩=some (.pointer (some ⟨p,0,none⟩))/\W.cell? ⟨t,1,none⟩=some (.int .i64 i)):=fun W hW=>⟨(hW.row ht hnt).cell 0,(hW.row ht hnt).cell 1⟩;clear ht h;go_enter Tryz.func78,Tryz.ntmps78;go_upto_region 3 with fail;refine wp_region_held_drew (S:=fun W=>W.cell? ⟨t,0,none⟩=some (.pointer (some ⟨p,0,none⟩))/\W.cell? ⟨t,1,none⟩=some (.int .i64 i)) (by kernel_rfl) (HKS.out _ (Only.of (by exact Xt))) (fun hHeld=> ?_);refine' tk 0 ?_;refine' tk 1 ?_;refine' tk 2 ?_;refine' tk 3 ?_;refine' tk 4 ?_;refine' tk 5 ?_;refine' tk 6 ?_;refine' tk 7 ?_;refine stp 8 (fun K hK=> ?_);go_simp
 (with_reducible refine(cR.out _ ?_).mono ?_)
 ·exact Xt
 rintro e w1 ⟨rfl,F1,hp1,hk1⟩;have HB:Hid (Only F w w1):=(Only.of (by exact Xt)).trans' hk1.only;have HP1:=hD hp1;have HK1:Hid (Keeps F F1 w w1):=Keeps.trans (Keeps.of (by exact Xt)) hk1;clear hp1 hk1
 (try dsimp only)
 (try go_simp)
 refine hK.out _ _ (HKS.out _ HB.out) (fun hHeld=> ?_);clear hK K;refine pt ?_;refine' tk 9 ?_;refine' tk 10 ?_;refine' tk 11 ?_;refine' tk 12 ?_;refine wpAnyH_done (by kernel_rfl) ?_ _;go_wp2_with fail
 go_ret2
 exact⟨rfl,F1,HP1.out,HK1.out⟩
theorem V6w{t p i:Nat}{F G:Nat->Prop}{S:StoreD}(a:Nat)(n:NodeD){kv vv cv:Value}(w:World)(ht:Z0b w t p i)(hnt:¬F t)(h:PagerAt w p F S)(hg:Z0r S a)(hn:NodeOk n)(hf:Fair n)(hs:Z0m n<=256)(hv:NodeAs w G n kv vv cv):
  Calls Tryz.prog 153 #[.pointer (some ⟨t,0,none⟩),.int .i64 a,.agg #[.bool n.leaf,kv,vv,cv]] w fun e w'=>e= .returned (.tuple #[.string ⟨#[]⟩,.int .i64 0,.int .i64 0])/\∃F',PagerAt w' p F' (layP S a n)/\Keeps F F' w w':=by
 obtain⟨kA,kc,rfl⟩:=OwnL.form hv.keys;obtain⟨vA,vc,rfl⟩:=OwnL.form hv.vals;obtain⟨cA,cc,rfl⟩:=OwnL.form hv.kids;have cZ:Hid (∀W,Ext w W->Calls Tryz.prog 186 #[.agg #[.bool n.leaf,.slice kA n.keys.length kc,.slice vA n.vals.length vc,.slice cA n.kids.length cc]] W fun e w'=>e= .returned (.int .i64 (Z0m n))/\Ext W w'):=fun W hW=>Y6w W (hv.ext hW) hf;have cL:Hid (∀W,Ext w W->Calls Tryz.prog 92 #[.pointer (some ⟨t,0,none⟩),.int .i64 a,.agg #[.bool n.leaf,.slice kA n.keys.length kc,.slice vA n.vals.length vc,.slice cA n.kids.length cc]] W fun e w'=>e= .returned (.int .i64 0)/\∃F',PagerAt w' p F' (layP S a n)/\Keeps F F' W w'):=fun W hW=>Y0s a n W (ht.ext hW ht.lt) hnt (h.ext hW) hg hn hs (hv.ext hW);have T1:decide ((Z0m n:Int)<=256)=true:=aN;generalize Z0m n=sz at *;obtain⟨lf,hlf⟩:∃lf,n.leaf=lf:=⟨_,rfl⟩;obtain⟨kn,hkn⟩:∃kn,n.keys.length=kn:=⟨_,rfl⟩;obtain⟨vn,hvn⟩:∃vn,n.vals.length=vn:=⟨_,rfl⟩;obtain⟨cn,hcn⟩:∃cn,n.kids.length=cn:=⟨_,rfl⟩;rw[hlf,hkn,hvn,hcn]at cZ cL ⊢;obtain⟨w0,hw0⟩:∃w0,w.alloc (.cells #[.bool lf,.slice kA kn kc,.slice vA vn vc,.slice cA cn cc] 166)=w0:=⟨_,rfl⟩;have hx0:Ext w w0:=hw0▸Ext.alloc _ _;have hr0:Row1 w0 w.heap.size 166 [.bool lf,.slice kA kn kc,.slice vA vn vc,.slice cA cn cc]:=hw0▸Row1.made w _ _;have c0:w0.cell? ⟨w.heap.size,0,none⟩=some (.bool lf):=hr0.cell 0;have c1:w0.cell? ⟨w.heap.size,1,none⟩=some (.slice kA kn kc):=hr0.cell 1;have c2:w0.cell? ⟨w.heap.size,2,none⟩=some (.slice vA vn vc):=hr0.cell 2;have c3:w0.cell? ⟨w.heap.size,3,none⟩=some (.slice cA cn cc):=hr0.cell 3;have HR:=hD hr0;have HX:=hD hx0;clear ht h hg hn hs hv hlf hkn hvn hcn hr0 hx0 hf;go_enter Tryz.func153,Tryz.ntmps153;go_wp2_with (first
  | (go_at_call 186;(with_reducible refine(cZ.out _ HX.out).mono ?_);clear cZ;rintro e w1 ⟨rfl,hx1⟩;have hr1:=HR.out.ext hx1 HR.out.lt;have d0:w1.cell? ⟨w.heap.size,0,none⟩=some (.bool lf):=hr1.cell 0;have d1:w1.cell? ⟨w.heap.size,1,none⟩=some (.slice kA kn kc):=hr1.cell 1;have d2:w1.cell? ⟨w.heap.size,2,none⟩=some (.slice vA vn vc):=hr1.cell 2;have d3:w1.cell? ⟨w.heap.size,3,none⟩=some (.slice cA cn cc):=hr1.cell 3;have HX1:=hD (Ext.trans HX.out hx1);clear hr1 hx1)
  | (go_at_call 92;(with_reducible refine(cL.out _ HX1.out).mono ?_);clear cL;rintro e w2 ⟨rfl,F2,hp2,hk2⟩;have HP2:=hD hp2;have HK2:=hD hk2;clear hp2 hk2))
 go_ret3
 exact⟨rfl,F2,HP2.out,Keeps.trans (Keeps.of HX1.out) HK2.out⟩
theorem Keeps.side{F F' G:Nat->Prop}{w w' w'':World}(h:Keeps F F' w w')(k:Only G w' w'')(hG:∀i,G i->w.heap.size<=i):Keeps F F' w w'':=⟨h.only.trans k (fun i q=> .inr (hG i q)),h.new⟩
theorem NodeOk.fair{n:NodeD}(h:NodeOk n):Fair n:=by
 refine⟨fun k hk=>by have:=h.keys k hk;omega,fun k hk=>by have:=h.vals k hk;omega,by have:=h.many;omega,?_,?_⟩
 ·cases hl:n.leaf with
  | true=>have:=(h.leafs hl).1;have:=h.many;omega
  | false=>rw[(h.inner hl).1];simp
 ·cases hl:n.leaf with
  | true=>rw[(h.leafs hl).2];simp
  | false=>have:=(h.inner hl).2;have:=h.many;omega
def X4p(t p i a:Nat)(S:StoreD)(n:NodeD)(R:ByteArray->Nat->StoreD->Prop):Prop:=
 ∀(W:World) (F G:Nat->Prop) (kv vv cv:Value),Z0b W t p i->¬F t->PagerAt W p F S->NodeAs W G n kv vv cv->(∀i,F i->¬G i)->
  Calls Tryz.prog 153 #[.pointer (some ⟨t,0,none⟩),.int .i64 a,.agg #[.bool n.leaf,kv,vv,cv]] W fun e w'=>∃(mid:ByteArray) (right:Nat) (S':StoreD),e= .returned (.tuple #[.string mid,.int .i64 right,.int .i64 0])/\R mid right S'/\∃F',PagerAt w' p F' S'/\Keeps F F' W w'
def putN(n:NodeD)(k v:ByteArray):NodeD:=if hasB n.keys k=true then { n with vals:=n.vals.set (posB n.keys k) v}else { n with keys:=insL n.keys (posB n.keys k) k,vals:=insL n.vals (posB n.keys k) v}
theorem OwnL.setS{w:World}{base:Nat}{v:Value}{l:List ByteArray}(h:OwnL w base 9 1 encS v l)(i:Nat)(hi:i<l.length)(x:ByteArray):
  ∃g c old,v= .slice (some ⟨g,0,none⟩) l.length c/\base<=g/\∀W,Ext w W->W.cell? ⟨g,i,none⟩=some old/\W.frozen? ⟨g,i,none⟩=false/\OwnL (W.setCell ⟨g,i,none⟩ (.string x)) base 9 1 encS (.slice (some ⟨g,0,none⟩) l.length c) (l.set i x):=by
 obtain⟨g,cap,spare,rfl,hb,hr0,hc1,hc2,hs,hfl⟩:=h.row (by omega);have h1:=Z9o encS 1 Z0d l i l[i] 0 (.string x) x hi rfl (by omega) rfl;have hle:i<(l.flatMap encS++spare).length:=by rw[aA,hfl];omega
 refine⟨g,cap,(l.flatMap encS++spare)[i],rfl,hb,fun W hW=> ?_⟩;have hr:=hr0.ext hW hr0.lt;refine⟨by rw[hr.cell];exact aB hle,hr.soft i,?_⟩;have h2:=hr.set i (.string x);rw[List.set_append_left _ _ (by rw[hfl];omega),show(l.flatMap encS).set i (.string x)=(l.set i x).flatMap encS by rw[<-h1];simp]at h2;have h3:=OwnL.ofRow (base:=base) (cap:=cap) (k:=1) (enc:=encS) h2 hb (by rw[List.length_set];exact hc1) hc2 (by rw[aA,Z0s Z0d,List.length_set];rw[aA,Z0s Z0d]at hs;exact hs) Z0d;rw[List.length_set]at h3;exact h3
theorem Y8y{t p i:Nat}{F:Nat->Prop}{S:StoreD}{R:ByteArray->Nat->StoreD->Prop}(a d:Nat)(k v:ByteArray)(n:NodeD)(w:World)(ht:Z0b w t p i)(hnt:¬F t)(h:PagerAt w p F S)(hp:PageN S a n)(hl:n.leaf=true)(hr:Z3e n.keys)(hd:0<d)(hhas:hasB n.keys k=true)(hcut:X4p t p i a S (putN n k v) R):
  Calls Tryz.prog 94 #[.pointer (some ⟨t,0,none⟩),.int .i64 a,.int .i64 d,.string k,.string v] w fun e w'=>∃(mid:ByteArray) (right:Nat) (S':StoreD),e= .returned (.tuple #[.string mid,.int .i64 right,.int .i64 0])/\R mid right S'/\∃F',PagerAt w' p F' S'/\Keeps F F' w w':=by
 have cL:=X3j a n w ht h hp;have hvl:n.vals.length=n.keys.length:=(hp.ok.leafs hl).1;have hput:putN n k v= { n with vals:=n.vals.set (posB n.keys k) v}:=if_pos hhas;have hpos:posB n.keys k<n.keys.length:=by
  obtain⟨j,hj,hje⟩:=List.mem_iff_getElem.1 ((Z5z _ _).1 hhas);rw[X0u (l:=n.keys) (k:=k) (p:=j) (by omega) (fun q hq hlt=>by rw[<-hje];exact Z1r hr hj hlt) (fun q hq hle=> ?_)]
  ·exact hj
  ·rw[<-hje];rcases Nat.eq_or_lt_of_le hle with e | e
   ·subst e;exact Z1g _
   ·exact Z2y (Z1r hr hq e)
 have hlen:=hp.ok.many;have HT:=hD ht;have HNT:=hD hnt;have HG:=hD hp.given;have HRI:=hD hr;have HCUT:=hD hcut;have hlt:=ht.lt;have T0:decide ((d:Int)=0)=false:=aM;have HPOS:=hD hpos;have HVL:=hD hvl;have HP:Hid (∀W kv vv cv G,NodeAs W G { n with vals:=n.vals.set (posB n.keys k) v} kv vv cv->NodeAs W G (putN n k v) kv vv cv):=by rw[hput];exact fun W kv vv cv G q=>q
 have HPL:Hid ((putN n k v).leaf=true):=by rw[hput];exact hl
 have HLF:=hD hl;have HLEN:=hD hlen;obtain⟨pos,hpo⟩:∃pos,posB n.keys k=pos:=⟨_,rfl⟩;obtain⟨kn,hkn⟩:∃kn,n.keys.length=kn:=⟨_,rfl⟩;rw[hpo,hkn]at HPOS;rw[hpo]at HP;have B1:(pos:Int)<kn:=by have:=HPOS.out;omega
 have HPO:=hD hpo;have HKN:=hD hkn;have HHAS:=hD hhas;clear ht hnt h hp hr hcut hhas hput hl hlen hpos hvl hpo hkn;go_enter Tryz.func94,Tryz.ntmps94;go_wp2_with (first
  | (go_at_call 82;(with_reducible refine cL.mono ?_);clear cL;rintro e w1 ⟨kv,vv,cv,B,F1,rfl,hn1,hp1,hk1,hB,hF1⟩
     obtain⟨kA,kc,rfl⟩:=OwnL.form hn1.keys;obtain⟨vg,vc,old,rfl,hvb,hvs⟩:=OwnL.setS hn1.vals pos (by rw[HVL.out,HKN.out];exact HPOS.out) v;obtain⟨cA,cc,rfl⟩:=OwnL.form hn1.kids;rw[HVL.out,HKN.out]at hn1 hvs;rw[HLF.out,HVL.out,HKN.out];have HVS:=hD hvs;clear hvs;have HBV:Hid (B<=vg):=hn1.fv vg rfl;have HR1:Hid (Z0b w1 t p i):=hD (hk1.only.row HT.out HNT.out);have HNT1:Hid (¬F1 t):=hk1.out hlt HNT.out;have HTV:Hid (¬t=vg):=by have h8:=aE hlt hB;have h9:=HBV.out;intro e;omega
     have HN1:=hD hn1;have HP1:=hD hp1;have HK1:=hD hk1;have HB:=hD hB;have HF1:=hD hF1;have cS:Hid (∀W,Ext w1 W->Calls Tryz.prog 138 #[.slice kA kn kc,.string k] W fun e w'=>e= .returned (.tuple #[.int .i64 pos,.bool true])/\W=w'):=fun W hW=>by have q:=Z4j k W (hn1.keys.ext hW) HRI.out (by have:=HLEN.out;omega);rw[HPO.out,HHAS.out]at q;exact q
     clear hn1 hp1 hk1 hB hF1)
  | (go_at_call 138;(with_reducible refine(cS.out _ (Ext.alloc _ _)).mono ?_);clear cS;rintro e w2 ⟨rfl,hW⟩
     have hx2:Ext w1 w2:=hW▸Ext.alloc _ _;have hr2:Row1 w2 w1.heap.size 166 [.bool true,.slice kA kn kc,.slice (some ⟨vg,0,none⟩) kn vc,.slice cA n.kids.length cc]:=hW▸Row1.made w1 _ _;clear hW;have hvlt:vg<w1.heap.size:=(HN1.out.vals.lt vg rfl).2;have d0:w2.cell? ⟨w1.heap.size,0,none⟩=some (.bool true):=hr2.cell 0;have d1:w2.cell? ⟨w1.heap.size,1,none⟩=some (.slice kA kn kc):=hr2.cell 1;have d2:w2.cell? ⟨w1.heap.size,2,none⟩=some (.slice (some ⟨vg,0,none⟩) kn vc):=hr2.cell 2;have d3:w2.cell? ⟨w1.heap.size,3,none⟩=some (.slice cA n.kids.length cc):=hr2.cell 3;have o1:w2.cell? ⟨vg,pos,none⟩=some old:=(HVS.out _ hx2).1;have o2:w2.frozen? ⟨vg,pos,none⟩=false:=(HVS.out _ hx2).2.1;have n1:¬(vg=w1.heap.size):=by omega
     have n2:¬(w1.heap.size=vg):=by omega
     have HX2:=hD hx2;have HR2:=hD hr2;have hW3:Only (fun j=>j=vg) w2 (w2.setCell ⟨vg,pos,none⟩ (.string v)):=Only.setCell (F:=fun j=>j=vg) (p:=⟨vg,pos,none⟩) Only.refl (.inl rfl) _;have hN3:NodeAs (w2.setCell ⟨vg,pos,none⟩ (.string v)) (fun j=>B<=j) { n with vals:=n.vals.set pos v} (.slice kA kn kc) (.slice (some ⟨vg,0,none⟩) kn vc) (.slice cA n.kids.length cc):=by have h2:=HN1.out.ext hx2;have h3:=(HVS.out _ hx2).2.2;exact⟨h2.keys.only hW3 (fun j q q'=>h2.sep j q (by rw[q'];rfl)),h3.lower (Nat.zero_le _),h2.kids.only hW3 (fun j q q'=>h2.kids.apart h2.vals (by decide) q (by rw[q'];rfl)),h2.sep,h2.fk,h2.fv,h2.fc⟩
     have cC:=HCUT.out (w2.setCell ⟨vg,pos,none⟩ (.string v)) _ _ _ _ _ (hW3.row (HR1.out.ext hx2 HR1.out.lt) (fun q=>HTV.out q)) (fun q=>HNT1.out q) ((HP1.out.ext hx2).only hW3 (fun j q q'=>by subst q';have h8:=HF1.out _ q;have h9:=HBV.out;omega)) (HP.out _ _ _ _ _ hN3) (fun j q q'=>by have h8:=HF1.out _ q;have h9:B<=j:=q';omega);rw[HPL.out]at cC;have HX3:Hid (Only (fun j=>j=vg) w1 (w2.setCell ⟨vg,pos,none⟩ (.string v))):=(Only.of hx2).trans' hW3;clear hx2 hr2 hW3 hN3)
  | (go_at_call 153;(with_reducible refine cC.mono ?_);clear cC;rintro e w4 ⟨mid,right,S4,rfl,hcr,F4,hp4,hk4⟩;have HCR:=hD hcr;have HP4:=hD hp4;have HK4:=hD hk4;clear hcr hp4 hk4))
 go_ret3
 exact⟨mid,right,S4,rfl,HCR.out,F4,HP4.out,Keeps.trans (HK1.out.side HX3.out (fun j q=>by subst q;have:=HB.out;have:=HBV.out;omega)) HK4.out⟩
structure Boxed (w1 W:World) (B D:Nat) (n:NodeD) (kv vv cv:Value):Prop where
 own:NodeAs W (fun j=>B<=j) n kv vv cv
 row:Row1 W D 166 [.bool n.leaf,kv,vv,cv]
 only:Only (fun j=>B<=j) w1 W
 bd:B<=D
section
variable {w1 W w3:World} {B D:Nat} {n:NodeD} {kv vv cv:Value}
theorem Boxed.ext(h:Boxed w1 W B D n kv vv cv)(hb:Ext W w3):Boxed w1 w3 B D n kv vv cv:=⟨h.own.ext hb,h.row.ext hb h.row.lt,h.only.ext hb,h.bd⟩
theorem Boxed.made(h:NodeAs w1 (fun j=>B<=j) n kv vv cv)(hB:B<=w1.heap.size)(hW:w1.alloc (.cells #[.bool n.leaf,kv,vv,cv] 166)=W):Boxed w1 W B w1.heap.size n kv vv cv:=by subst hW;exact⟨h.ext (Ext.alloc _ _),Row1.made w1 _ _,Only.of (Ext.alloc _ _),hB⟩
theorem Boxed.keysD(h:Boxed w1 W B D n kv vv cv):kv.ownBlock≠some D:=h.own.keys.apartRow h.row (by decide)
theorem Boxed.valsD(h:Boxed w1 W B D n kv vv cv):vv.ownBlock≠some D:=h.own.vals.apartRow h.row (by decide)
theorem Y4u(w:World)(D o:Nat)(u:Value):Only (fun j=>j=D) w (w.setCell ⟨D,o,none⟩ u):=Only.setCell (F:=fun j=>j=D) (p:=⟨D,o,none⟩) Only.refl (.inl rfl) u
theorem Boxed.rowK(h:Boxed w1 W B D n kv vv cv)(hx:Only (fun j=>kv.ownBlock=some j) W w3):Row1 w3 D 166 [.bool n.leaf,kv,vv,cv]:=hx.row h.row h.keysD
theorem Boxed.rowV(h:Boxed w1 W B D n kv vv cv)(hx:Only (fun j=>vv.ownBlock=some j) W w3):Row1 w3 D 166 [.bool n.leaf,kv,vv,cv]:=hx.row h.row h.valsD
theorem Boxed.setK(h:Boxed w1 W B D n kv vv cv){kv':Value}{K':List ByteArray}(hown:OwnL w3 0 9 1 encS kv' K')(hwh:∀b,kv'.ownBlock=some b->kv.ownBlock=some b\/W.heap.size<=b)(hx:Only (fun j=>kv.ownBlock=some j) W w3):
  Boxed w1 (w3.setCell ⟨D,1,none⟩ kv') B D { n with keys:=K'} kv' vv cv:=by
 have ho:=Y4u w3 D 1 kv';have hr3:=h.rowK hx;have hlt:=h.row.lt;have hv3:=h.own.vals.only hx (fun k q q'=>h.own.sep k q' q);have hc3:=h.own.kids.only hx (fun k q q'=>h.own.kids.apart h.own.keys (by decide) q q');have hF:∀b,kv'.ownBlock=some b->B<=b:=fun b q=>by
  rcases hwh b q with r | r
  ·exact h.own.fk b r
  ·have:=h.bd;omega
 refine⟨⟨hown.only ho (fun k q q'=>hown.apartRow hr3 (by decide) (by rw[q,q'])),hv3.only ho (fun k q q'=>hv3.apartRow hr3 (by decide) (by rw[q,q'])),hc3.only ho (fun k q q'=>hc3.apartRow hr3 (by decide) (by rw[q,q'])),fun b q q'=> ?_,hF,h.own.fv,h.own.fc⟩,hr3.set 1 kv',?_,h.bd⟩
 ·rcases hwh b q with r | r
  ·exact h.own.sep b r q'
  ·have:=(h.own.vals.lt b q').2;omega
 ·exact(h.only.trans' (hx.mono (fun i q=> .inl (h.own.fk i q)))).trans' (ho.mono (fun i q=> .inl (by have:=h.bd;omega)))
theorem Boxed.setV(h:Boxed w1 W B D n kv vv cv){vv':Value}{V':List ByteArray}(hown:OwnL w3 0 9 1 encS vv' V')(hwh:∀b,vv'.ownBlock=some b->vv.ownBlock=some b\/W.heap.size<=b)(hx:Only (fun j=>vv.ownBlock=some j) W w3):
  Boxed w1 (w3.setCell ⟨D,2,none⟩ vv') B D { n with vals:=V'} kv vv' cv:=by
 have ho:=Y4u w3 D 2 vv';have hr3:=h.rowV hx;have hlt:=h.row.lt;have hk3:=h.own.keys.only hx (fun k q q'=>h.own.sep k q q');have hc3:=h.own.kids.only hx (fun k q q'=>h.own.kids.apart h.own.vals (by decide) q q');have hF:∀b,vv'.ownBlock=some b->B<=b:=fun b q=>by
  rcases hwh b q with r | r
  ·exact h.own.fv b r
  ·have:=h.bd;omega
 refine⟨⟨hk3.only ho (fun k q q'=>hk3.apartRow hr3 (by decide) (by rw[q,q'])),hown.only ho (fun k q q'=>hown.apartRow hr3 (by decide) (by rw[q,q'])),hc3.only ho (fun k q q'=>hc3.apartRow hr3 (by decide) (by rw[q,q'])),fun b q q'=> ?_,h.own.fk,hF,h.own.fc⟩,hr3.set 2 vv',?_,h.bd⟩
 ·rcases hwh b q' with r | r
  ·exact h.own.sep b q r
  ·have:=(h.own.keys.lt b q).2;omega
 ·exact(h.only.trans' (hx.mono (fun i q=> .inl (h.own.fv i q)))).trans' (ho.mono (fun i q=> .inl (by have:=h.bd;omega)))
end
theorem Z1k{t p i:Nat}{F:Nat->Prop}{S:StoreD}(a:Nat)(n:NodeD)(w:World)(ht:Z0b w t p i)(h:PagerAt w p F S)(hp:PageN S a n):
  Calls Tryz.prog 82 #[.pointer (some ⟨t,0,none⟩),.int .i64 a] w fun e w'=>∃kA kn kc vA vn vc cA cn cc B F',e= .returned (.tuple #[.agg #[.bool n.leaf,.slice kA kn kc,.slice vA vn vc,.slice cA cn cc],.int .i64 0])/\NodeAs w' (fun i=>B<=i) n (.slice kA kn kc) (.slice vA vn vc) (.slice cA cn cc)/\PagerAt w' p F' S/\Keeps F F' w w'/\w.heap.size<=B/\(∀i,F' i->i<B)/\B<=w'.heap.size:=by
 refine(X3j a n w ht h hp).mono ?_;rintro e w1 ⟨kv,vv,cv,B,F1,rfl,hn1,hp1,hk1,hB,hF1⟩;obtain⟨kA,kc,rfl⟩:=OwnL.form hn1.keys;obtain⟨vA,vc,rfl⟩:=OwnL.form hn1.vals;obtain⟨cA,cc,rfl⟩:=OwnL.form hn1.kids;have hs:=hk1.only.size;refine⟨_,_,_,_,_,_,_,_,_,Nat.min B w1.heap.size,_,rfl,hn1.mono (fun i q=>Nat.le_trans (Nat.min_le_left _ _) q),hp1.shrink,hk1.shrink,Nat.le_min.2 ⟨hB,hs⟩,fun i q=>Nat.lt_min.2 ⟨hF1 i q.1,q.2⟩,Nat.min_le_right _ _⟩
theorem Y8x{t p i:Nat}{F:Nat->Prop}{S:StoreD}{R:ByteArray->Nat->StoreD->Prop}(a d:Nat)(k v:ByteArray)(n:NodeD)(w:World)(ht:Z0b w t p i)(hnt:¬F t)(h:PagerAt w p F S)(hp:PageN S a n)(hl:n.leaf=true)(hr:Z3e n.keys)(hd:0<d)(hhas:hasB n.keys k=false)(hcut:X4p t p i a S (putN n k v) R):
  Calls Tryz.prog 94 #[.pointer (some ⟨t,0,none⟩),.int .i64 a,.int .i64 d,.string k,.string v] w fun e w'=>∃(mid:ByteArray) (right:Nat) (S':StoreD),e= .returned (.tuple #[.string mid,.int .i64 right,.int .i64 0])/\R mid right S'/\∃F',PagerAt w' p F' S'/\Keeps F F' w w':=by
 have cL:=Z1k a n w ht h hp;have hvl:n.vals.length=n.keys.length:=(hp.ok.leafs hl).1;have hput:putN n k v= { n with keys:=insL n.keys (posB n.keys k) k,vals:=insL n.vals (posB n.keys k) v}:=if_neg (by rw[hhas];decide);have hpos:posB n.keys k<=n.keys.length:=Y0l _ _;have hlen:=hp.ok.many;have HT:=hD ht;have HNT:=hD hnt;have HG:=hD hp.given;have HRI:=hD hr;have HCUT:=hD hcut;have hlt:=ht.lt;have T0:decide ((d:Int)=0)=false:=aM;have HPOS:=hD hpos;have HVL:=hD hvl;have HP:Hid (∀W kv vv cv G,NodeAs W G { n with keys:=insL n.keys (posB n.keys k) k,vals:=insL n.vals (posB n.keys k) v} kv vv cv->NodeAs W G (putN n k v) kv vv cv):=by rw[hput];exact fun W kv vv cv G q=>q
 have HPL:Hid ((putN n k v).leaf=true):=by rw[hput];exact hl
 have HLF:=hD hl;have HLEN:=hD hlen;obtain⟨pos,hpo⟩:∃pos,posB n.keys k=pos:=⟨_,rfl⟩;rw[hpo]at HPOS HP;have HPO:=hD hpo;have HHAS:=hD hhas;clear ht hnt h hp hr hcut hhas hput hl hlen hpos hvl hpo;go_enter Tryz.func94,Tryz.ntmps94;go_wp2_with (first
  | (go_at_call 82;(with_reducible refine cL.mono ?_);clear cL;rintro e w1 ⟨kA,kn,kc,vA,vn,vc,cA,cn,cc,B,F1,rfl,hn1,hp1,hk1,hB,hF1,hBW⟩
     rw[HLF.out];have HR1:Hid (Z0b w1 t p i):=hD (hk1.only.row HT.out HNT.out);have HNT1:Hid (¬F1 t):=hk1.out hlt HNT.out;have HTB:Hid (¬B<=t):=by have h8:=aE hlt hB;intro e;omega
     have HBW:Hid (B<=w1.heap.size):=hD hBW;have HN1:=hD hn1;have HP1:=hD hp1;have HK1:=hD hk1;have HB:=hD hB;have HF1:=hD hF1;have cS:Hid (∀W,Ext w1 W->Calls Tryz.prog 138 #[.slice kA kn kc,.string k] W fun e w'=>e= .returned (.tuple #[.int .i64 pos,.bool false])/\W=w'):=fun W hW=>by have q:=Z4j k W (hn1.keys.ext hW) HRI.out (by have:=HLEN.out;omega);rw[HPO.out,HHAS.out]at q;exact q
     clear hn1 hp1 hk1 hB hF1)
  | (go_at_call 138;(with_reducible refine(cS.out _ (Ext.alloc _ _)).mono ?_);clear cS;rintro e w2 ⟨rfl,hW⟩
     have hb2:Boxed w1 w2 B w1.heap.size n (.slice kA kn kc) (.slice vA vn vc) (.slice cA cn cc):=Boxed.made HN1.out HBW.out (by rw[HLF.out];exact hW);clear hW;have d0:w2.cell? ⟨w1.heap.size,0,none⟩=some (.bool true):=by rw[hb2.row.cell,HLF.out];rfl
     have d1:w2.cell? ⟨w1.heap.size,1,none⟩=some (.slice kA kn kc):=hb2.row.cell 1;have cI:=Y7p k w2.heap.size pos (w2.alloc (.cells #[.string k] 9)) (hb2.own.keys.alloc _) HPOS.out (Row1.made w2 _ [.string k]) (fun q=>by have:=(hb2.own.keys.lt _ q).2;omega) (by have:=HLEN.out;omega);have HB2:=hD (hb2.ext (Ext.alloc w2 (.cells #[.string k] 9)));have HLT:=hD hb2.row.lt;clear hb2)
  | (go_at_call 152;(with_reducible refine cI.mono ?_);clear cI;rintro e w4 ⟨kv',rfl,h1,h2,h3⟩
     obtain⟨kA',kn',kc',rfl⟩:∃kA kn kc,kv'= .slice kA kn kc:=let ⟨A,c,q⟩:=OwnL.form h1;⟨A,_,c,q⟩;have hb4:=HB2.out.setK h1 h2 h3;have hr4:=HB2.out.rowK h3;have e1:w4.cell? ⟨w1.heap.size,1,none⟩=some (.slice kA kn kc):=hr4.cell 1;have e2:w4.cell? ⟨w1.heap.size,2,none⟩=some (.slice vA vn vc):=hr4.cell 2;have e3:w4.frozen? ⟨w1.heap.size,1,none⟩=false:=hr4.soft 1;have cJ:=Y7p v (w4.setCell ⟨w1.heap.size,1,none⟩ (.slice kA' kn' kc')).heap.size pos ((w4.setCell ⟨w1.heap.size,1,none⟩ (.slice kA' kn' kc')).alloc (.cells #[.string v] 9)) (hb4.own.vals.alloc _) (by show pos<=n.vals.length;rw[HVL.out];exact HPOS.out) (Row1.made _ _ [.string v]) (fun q=>by have:=(hb4.own.vals.lt _ q).2;omega) (by show n.vals.length<=100000;have:=HLEN.out;have:=HVL.out;omega);rw[Z1x]at cJ;have HB4:=hD (hb4.ext (Ext.alloc _ (.cells #[.string v] 9)));clear hb4 hr4 h1 h2 h3)
  | (go_at_call 152;(with_reducible refine cJ.mono ?_);clear cJ;rintro e w7 ⟨vv',rfl,h1,h2,h3⟩
     obtain⟨vA',vn',vc',rfl⟩:∃kA kn kc,vv'= .slice kA kn kc:=let ⟨A,c,q⟩:=OwnL.form h1;⟨A,_,c,q⟩;have hb7:=HB4.out.setV h1 h2 h3;have hr7:=HB4.out.rowV h3;have g0:w7.cell? ⟨w1.heap.size,0,none⟩=some (.bool true):=by rw[hr7.cell];show some (Value.bool n.leaf)=_;rw[HLF.out]
     have g1:w7.cell? ⟨w1.heap.size,1,none⟩=some (.slice kA' kn' kc'):=hr7.cell 1;have g2:w7.cell? ⟨w1.heap.size,2,none⟩=some (.slice vA vn vc):=hr7.cell 2;have g3:w7.cell? ⟨w1.heap.size,3,none⟩=some (.slice cA cn cc):=hr7.cell 3;have g4:w7.frozen? ⟨w1.heap.size,2,none⟩=false:=hr7.soft 2;have cC:=HCUT.out (w7.setCell ⟨w1.heap.size,2,none⟩ (.slice vA' vn' vc')) _ _ _ _ _ (hb7.only.row HR1.out HTB.out) HNT1.out (HP1.out.only hb7.only (fun j q q'=>by have h8:=HF1.out _ q;omega)) (HP.out _ _ _ _ _ hb7.own) (fun j q q'=>by have h8:=HF1.out _ q;have h9:B<=j:=q';omega);rw[HPL.out]at cC;have HB7:=hD hb7.only;clear hb7 hr7 h1 h2 h3)
  | (go_at_call 153;(with_reducible refine cC.mono ?_);clear cC;rintro e w8 ⟨mid,right,S4,rfl,hcr,F4,hp4,hk4⟩;have HCR:=hD hcr;have HP4:=hD hp4;have HK4:=hD hk4;clear hcr hp4 hk4))
 go_ret3
 exact⟨mid,right,S4,rfl,HCR.out,F4,HP4.out,Keeps.trans (HK1.out.side HB7.out (fun j q=>by have:=HB.out;omega)) HK4.out⟩
def V7k(S:StoreD):Nat->Nat->Prop
 | 0,a=>∃n,PageN S a n/\n.leaf=true
 | d+1,a=>∃n,PageN S a n/\n.leaf=false/\V7k S d (n.kids[0]?.getD 0).toNat
def V8m(S:StoreD)(d:Nat):Nat:=if Z0z S<d+2 then 13 else 0
theorem V4w{w:World}{v:Value}{base:Nat}{l:List Int}(h:OwnL w base 3 1 encN v l)(hl:0<l.length):∃g c,v= .slice (some ⟨g,0,none⟩) l.length c/\g<w.heap.size/\w.cell? ⟨g,0,none⟩=some (.int .i64 (l[0]?.getD 0)):=by obtain⟨A,c,rfl,_,_,hx⟩:=Y9e h;obtain⟨b,rfl,_,hb,_,hc⟩:=hx hl;have:=hc 0 hl;exact⟨b,c,rfl,hb,by rw[aB hl];exact this⟩
theorem V4d{t p i:Nat}{F:Nat->Prop}{S:StoreD}(a d:Nat)(w:World)(ht:Z0b w t p i)(hnt:¬F t)(h:PagerAt w p F S)(hs:V7k S d a)(hd:d<32):
  Calls Tryz.prog 93 #[.pointer (some ⟨t,0,none⟩),.int .i64 a] w fun e w'=>e= .returned (.int .i64 (V8m S d))/\∃F',PagerAt w' p F' S/\Keeps F F' w w':=by
 have HS:=hD hs;have HT:=hD ht;have HNT:=hD hnt;have HP:=hD h;have HTL:=hD ht.lt;have HR:Hid (V8m S d=if Z0z S<d+2 then 13 else 0):=rfl;obtain⟨r,hr⟩:∃r,Z0z S=r:=⟨_,rfl⟩;rw[hr]at HR;have HRR:Hid (∀W F1,PagerAt W p F1 S->Calls Tryz.prog 35 #[.pointer (some ⟨p,0,none⟩)] W fun e w'=>e= .returned (.int .i64 r)/\∃F',PagerAt w' p F' S/\Keeps F1 F' W w'):=by rw[<-hr];exact fun W F1 q=>X9i W q
 clear hs ht hnt h hr;go_enter Tryz.func93,Tryz.ntmps93;go_wp2_with fail
 go_loopw [1,5,8] (fun x y z wr=>∃(k j b:Nat),k+j=d/\x= .int .i64 b/\y= .int .i64 ((k:Int)+1)/\z= .int .i64 k/\Hid (V7k S j b)/\∃Fr,Hid (PagerAt wr p Fr S)/\Hid (Keeps F Fr w wr)) (fun _ _ z _=>d-(intOf z).toNat)
 case atStart=>exact⟨0,d,a,by omega,rfl,rfl,rfl,HS,F,HP,Keeps.refl⟩
 case round=>
  obtain⟨k,j,b,hk,rfl,rfl,rfl,hsp,Fr,hpr,hkr⟩:=hrel;have q1:decide ((k:Int)<32)=true:=aN;have hnr:¬Fr t:=hkr.out.out HTL.out HNT.out;have htr:Z0b wr t p i:=hkr.out.only.row HT.out HNT.out;cases j with
  | zero=>
    obtain⟨n,hn,hl⟩:=hsp.out;have cL:=Z1k b n wr htr hpr.out hn;have HNR:=hD hnr;have HTR:=hD htr;have HKR:=hkr;have HHD:=hD hk;rw[hl]at cL;clear hn hl hnr htr hpr hkr hsp;obtain⟨bb,hbb⟩:∃bb,decide ((r:Int)<(k:Int)+1+1)=bb:=⟨_,rfl⟩;have HBB:=hD hbb;cases bb
    ·go_wp2_with (first
      | (go_at_call 82;(with_reducible refine cL.mono ?_);clear cL;rintro e w1 ⟨kA,kn,kc,vA,vn,vc,cA,cn,cc,B,F1,rfl,hn1,hp1,hk1,hB,hF1,hBW⟩
         have hr1:Z0b (w1.alloc (.cells #[.bool true,.slice kA kn kc,.slice vA vn vc,.slice cA cn cc] 166)) t p i:=Row1.alloc (hk1.only.row HTR.out HNR.out) _;have c0:(w1.alloc (.cells #[.bool true,.slice kA kn kc,.slice vA vn vc,.slice cA cn cc] 166)).cell? ⟨t,0,none⟩=some (.pointer (some ⟨p,0,none⟩)):=hr1.cell 0;have cR:=HRR.out _ _ (hp1.ext (Ext.alloc w1 (.cells #[.bool true,.slice kA kn kc,.slice vA vn vc,.slice cA cn cc] 166)));have HK1:Hid (Keeps F F1 w (w1.alloc (.cells #[.bool true,.slice kA kn kc,.slice vA vn vc,.slice cA cn cc] 166))):=Keeps.ext (Keeps.trans HKR.out hk1) (Ext.alloc _ _);clear hn1 hp1 hk1 hB hF1 hBW hr1)
      | (go_at_call 35;(with_reducible refine cR.mono ?_);clear cR;rintro e w2 ⟨rfl,F2,hp2,hk2⟩;have HP2:=hD hp2;have HK2:=hD hk2;clear hp2 hk2))
     go_ret;refine⟨?_,F2,HP2.out,Keeps.trans HK1.out HK2.out⟩;rw[HR.out,if_neg (by have:=of_decide_eq_false HBB.out;have:=HHD.out;omega)];rfl
    ·go_wp2_with (first
      | (go_at_call 82;(with_reducible refine cL.mono ?_);clear cL;rintro e w1 ⟨kA,kn,kc,vA,vn,vc,cA,cn,cc,B,F1,rfl,hn1,hp1,hk1,hB,hF1,hBW⟩
         have hr1:Z0b (w1.alloc (.cells #[.bool true,.slice kA kn kc,.slice vA vn vc,.slice cA cn cc] 166)) t p i:=Row1.alloc (hk1.only.row HTR.out HNR.out) _;have c0:(w1.alloc (.cells #[.bool true,.slice kA kn kc,.slice vA vn vc,.slice cA cn cc] 166)).cell? ⟨t,0,none⟩=some (.pointer (some ⟨p,0,none⟩)):=hr1.cell 0;have cR:=HRR.out _ _ (hp1.ext (Ext.alloc w1 (.cells #[.bool true,.slice kA kn kc,.slice vA vn vc,.slice cA cn cc] 166)));have HK1:Hid (Keeps F F1 w (w1.alloc (.cells #[.bool true,.slice kA kn kc,.slice vA vn vc,.slice cA cn cc] 166))):=Keeps.ext (Keeps.trans HKR.out hk1) (Ext.alloc _ _);clear hn1 hp1 hk1 hB hF1 hBW hr1)
      | (go_at_call 35;(with_reducible refine cR.mono ?_);clear cR;rintro e w2 ⟨rfl,F2,hp2,hk2⟩;have HP2:=hD hp2;have HK2:=hD hk2;clear hp2 hk2))
     go_ret;refine⟨?_,F2,HP2.out,Keeps.trans HK1.out HK2.out⟩;rw[HR.out,if_pos (by have:=of_decide_eq_true HBB.out;have:=HHD.out;omega)];rfl
  | succ j=>
    obtain⟨n,hn,hl,hsn⟩:=hsp.out;have cL:=Z1k b n wr htr hpr.out hn;have hkl:=(hn.ok.inner hl).2;have hk0:0<n.kids.length:=by omega
    have hc0:(0:Int)<=n.kids[0]?.getD 0:=by rw[aB hk0];exact(hn.ok.kids _ (List.getElem_mem _)).1
    have HNR:=hD hnr;have HTR:=hD htr;have HKR:=hkr;have HSN:=hD hsn;have HK0:=hD hk0;have HC:Hid ((((n.kids[0]?.getD 0).toNat:Nat):Int)=n.kids[0]?.getD 0):=Int.toNat_of_nonneg hc0;rw[hl]at cL;clear hn hl hnr htr hpr hkr hsp hsn hkl hk0 hc0;go_wp2_with (first
     | (go_at_call 82;(with_reducible refine cL.mono ?_);clear cL;rintro e w1 ⟨kA,kn,kc,vA,vn,vc,cA,cn,cc,B,F1,rfl,hn1,hp1,hk1,hB,hF1,hBW⟩
        obtain⟨g,c,hcv,hg,hgc⟩:=V4w hn1.kids HK0.out;obtain⟨x,hx⟩:∃x,(n.kids[0]?.getD 0).toNat=x:=⟨_,rfl⟩;injection hcv with e1 e2 e3;subst e1 e3;have q3:decide (0<cn)=true:=decide_eq_true (by have:=HK0.out;omega);have q4:0<cn:=by have:=HK0.out;omega
        have d0:(w1.alloc (.cells #[.bool false,.slice kA kn kc,.slice vA vn vc,.slice (some ⟨g,0,none⟩) cn cc] 166)).cell? ⟨g,0,none⟩=some (.int .i64 x):=by rw[(Ext.alloc w1 _).cell (p:=⟨g,0,none⟩) hg,hgc,<-hx,HC.out]
        have HX:=hD hx;have HK1:Hid (Keeps F F1 w (w1.alloc (.cells #[.bool false,.slice kA kn kc,.slice vA vn vc,.slice (some ⟨g,0,none⟩) cn cc] 166))):=Keeps.ext (Keeps.trans HKR.out hk1) (Ext.alloc _ _);have HP1:Hid (PagerAt (w1.alloc (.cells #[.bool false,.slice kA kn kc,.slice vA vn vc,.slice (some ⟨g,0,none⟩) cn cc] 166)) p F1 S):=hp1.ext (Ext.alloc _ _);clear hn1 hp1 hk1 hB hF1 hBW hx hgc e2))
    go_roundw
    case rel=>exact⟨k+1,j,x,by omega,by go_num,by go_num,by go_num,hD (by have q:=HSN.out;rw[HX.out]at q;exact q),F1,HP1,HK1⟩
    case measure=>simp[intOf];omega
def Z4r(k v:ByteArray):NodeD:=⟨true,[k],[v],[]⟩
theorem V5l(w:World)(k v:ByteArray):NodeAs ((w.alloc (.cells #[.string k] 9)).alloc (.cells #[.string v] 9)) (fun i=>w.heap.size<=i) (Z4r k v) (.slice (some ⟨w.heap.size,0,none⟩) 1 1) (.slice (some ⟨w.heap.size+1,0,none⟩) 1 1) (.slice none 0 0):=by
 have h1:Row1 ((w.alloc (.cells #[.string k] 9)).alloc (.cells #[.string v] 9)) w.heap.size 9 (([k].flatMap encS)++ []):=Row1.alloc (Row1.made w _ [.string k]) _;have h2:Row1 ((w.alloc (.cells #[.string k] 9)).alloc (.cells #[.string v] 9)) (w.heap.size+1) 9 (([v].flatMap encS)++ []):=Row1.made' (by simp) _ [.string v];refine⟨OwnL.ofRow (k:=1) h1 (Nat.zero_le _) (aF 1) (by decide) rfl Z0d,OwnL.ofRow (k:=1) h2 (Nat.zero_le _) (aF 1) (by decide) rfl Z0d,OwnL.nil _ _ _ _ _,fun b q q'=> ?_,fun b q=> ?_,fun b q=> ?_,fun b q=> ?_⟩
 ·have e1:w.heap.size=b:=Option.some.inj q;have e2:w.heap.size+1=b:=Option.some.inj q';omega
 ·have e1:w.heap.size=b:=Option.some.inj q;omega
 ·have e2:w.heap.size+1=b:=Option.some.inj q;omega
 ·cases q
theorem X2k{k:ByteArray}(h:0<k.size):¬k.toList= []:=fun e=>by
 have h1:eqB k ⟨#[]⟩=true:=by unfold eqB;rw[e,ByteArray.toList_eq];rfl
 rw[(Z7d _ _).1 h1]at h;exact absurd h (by decide)
theorem V4i{t p i:Nat}{F:Nat->Prop}{S:StoreD}(a:Nat)(k v:ByteArray)(w:World)(ht:Z0b w t p i)(hnt:¬F t)(h:PagerAt w p F S)(hi:i<16)(hroot:Z1u S i=0)(ha:lowS S=some a)(hk0:0<k.size)(hk:k.size<=32)(hv:v.size<=80):
  Calls Tryz.prog 34 #[.pointer (some ⟨t,0,none⟩),.string k,.string v] w fun e w'=>e= .returned (.int .i64 0)/\∃F',PagerAt w' p F' (Z0p (layP (Z1e S a) a (Z4r k v)) i a)/\Keeps F F' w w':=by
 have cR:=Z3w w ht hnt h hi;rw[hroot]at cR;have hkk:¬k.toList= []:=X2k hk0;have hke:k.toList.isEmpty=false:=by cases h9:k.toList with | nil=>exact absurd h9 hkk | cons _ _=>rfl
 have hkd:decide ((32:Int)<(k.size:Int))=false:=aM;have hvd:decide ((80:Int)<(v.size:Int))=false:=aM;have hkd':decide ((32:Nat)<k.size)=false:=aM;have hvd':decide ((80:Nat)<v.size)=false:=aM;have HA:=hD ha;have HT:=hD ht;have HNT:=hD hnt;have HTL:=hD ht.lt;have HK:=hD hk;have HV:=hD hv;have HI:=hD hi;have hlo:=Z4q ha;have hmo:=h.most;have hfu:=h.full;have hg1:Z0r (Z1e S a) a:=⟨hlo.1,hlo.2.1,by rw[Y5d hfu (by omega) (by omega),if_pos rfl]⟩;have hnk:NodeOk (Z4r k v):=⟨fun x hx=>by simp[Z4r]at hx;subst hx;omega,fun x hx=>by simp[Z4r]at hx;subst hx;omega,fun c hc=>by simp[Z4r]at hc,by simp[Z4r],fun _=>⟨rfl,rfl⟩,fun q=>by cases q⟩;have hsz:Z0m (Z4r k v)<=256:=by simp[Z0m,Z4r,Z0n];omega
 have HGV:Hid (Z0r (layP (Z1e S a) a (Z4r k v)) a):=⟨hlo.1,hlo.2.1,by rw[layP,Z8u (by omega)];exact hg1.2.2⟩;have HLAY:Hid (∀W F2,Z0b W t p i->¬F2 t->PagerAt W p F2 (Z1e S a)->Calls Tryz.prog 92 #[.pointer (some ⟨t,0,none⟩),.int .i64 a,.agg #[.bool true,.slice (some ⟨W.heap.size,0,none⟩) 1 1,.slice (some ⟨W.heap.size+1,0,none⟩) 1 1,.slice none 0 0]] ((W.alloc (.cells #[.string k] 9)).alloc (.cells #[.string v] 9)) fun e w'=>e= .returned (.int .i64 0)/\∃F',PagerAt w' p F' (layP (Z1e S a) a (Z4r k v))/\Keeps F2 F' ((W.alloc (.cells #[.string k] 9)).alloc (.cells #[.string v] 9)) w'):=fun W F2 q1 q2 q3=>
  Y0s a (Z4r k v) _ (Row1.alloc (Row1.alloc q1 _) _) q2 (q3.ext (Ext.trans (Ext.alloc _ _) (Ext.alloc _ _))) hg1 hnk hsz (V5l W k v)
 clear ht hnt h hroot ha hk0 hk hv hi hlo hmo hfu hg1 hnk hsz;go_enter Tryz.func34,Tryz.ntmps34;go_upto_region 15 with (first
  | (go_at_call 78;(with_reducible refine cR.mono ?_);clear cR;rintro e w1 ⟨rfl,F1,hp1,hk1⟩
     have hr1:Z0b w1 t p i:=hk1.only.row HT.out HNT.out;have c0:w1.cell? ⟨t,0,none⟩=some (.pointer (some ⟨p,0,none⟩)):=hr1.cell 0;have cA:=Y0n a w1 hp1 HA.out;have HR1:=hD hr1;have HN1:Hid (¬F1 t):=hk1.out HTL.out HNT.out;have HK1:=hD hk1;clear hp1 hk1 hr1)
  | (go_at_call 91;(with_reducible refine cA.mono ?_);clear cA;rintro e w2 ⟨rfl,F2,hp2,hk2⟩
     have hr2:Z0b w2 t p i:=hk2.only.row HR1.out HN1.out;have hn2:¬F2 t:=hk2.out HR1.out.lt HN1.out;have HR2:=hD hr2;have HN2:=hD hn2;have HP2:=hD hp2;have HK2:Hid (Keeps F F2 w w2):=Keeps.trans HK1.out hk2;clear hp2 hk2 hr2 hn2)
  | (go_at_call 92;(with_reducible refine(HLAY.out w2 F2 HR2.out HN2.out HP2.out).mono ?_);clear HLAY;rintro e w3 ⟨rfl,F3,hp3,hk3⟩
     have hx:Ext w2 ((w2.alloc (.cells #[.string k] 9)).alloc (.cells #[.string v] 9)):=Ext.trans (Ext.alloc _ _) (Ext.alloc _ _);have hk23:Keeps F2 F3 w2 w3:=Keeps.trans (Keeps.of hx) hk3;have hr3:Z0b w3 t p i:=hk23.only.row HR2.out HN2.out;have HR3:=hD hr3;have HN3:Hid (¬F3 t):=hk23.out HR2.out.lt HN2.out;have HP3:=hD hp3;have HK3:Hid (Keeps F F3 w w3):=Keeps.trans HK2.out hk23;clear hx hk23 hr3 hp3 hk3))
 have HC:Hid (∀W,Ext w3 W->W.cell? ⟨t,0,none⟩=some (.pointer (some ⟨p,0,none⟩))/\W.cell? ⟨t,1,none⟩=some (.int .i64 i)):=fun W hW=>⟨(HR3.out.ext hW HR3.out.lt).cell 0,(HR3.out.ext hW HR3.out.lt).cell 1⟩;have cT:Hid (∀W,Ext w3 W->Calls Tryz.prog 83 #[.pointer (some ⟨p,0,none⟩),.int .i64 i,.int .i64 a] W fun e w'=>e= .returned (.int .i64 0)/\∃F',PagerAt w' p F' (Z0p (layP (Z1e S a) a (Z4r k v)) i a)/\Keeps F3 F' W w'):=fun W hW=>Z5v i a W (HP3.out.ext hW) HI.out (.inr HGV.out);refine wp_region_held_drew (S:=fun W=>W.cell? ⟨t,0,none⟩=some (.pointer (some ⟨p,0,none⟩))/\W.cell? ⟨t,1,none⟩=some (.int .i64 i)) (by kernel_rfl) (HC.out _ (by exact Xt)) (fun hHeld=> ?_);refine' tk 0 ?_;refine' tk 1 ?_;refine' tk 2 ?_;refine' tk 3 ?_;refine' tk 4 ?_;refine' tk 5 ?_;refine' tk 6 ?_;refine' tk 7 ?_;refine' tk 8 ?_;refine stp 9 (fun K hK=> ?_);go_simp
 (with_reducible refine(cT.out _ ?_).mono ?_)
 ·exact Xt
 rintro e w4 ⟨rfl,F4,hp4,hk4⟩;have hk34:Keeps F3 F4 w3 w4:=Keeps.trans (Keeps.of (by exact Xt)) hk4;have hr4:Z0b w4 t p i:=hk34.only.row HR3.out HN3.out;have HC9:Hid (w4.cell? ⟨t,0,none⟩=some (.pointer (some ⟨p,0,none⟩))/\w4.cell? ⟨t,1,none⟩=some (.int .i64 i)):=⟨hr4.cell 0,hr4.cell 1⟩;have HP4:=hD hp4;have HK4:Hid (Keeps F F4 w w4):=Keeps.trans HK3.out hk34;clear hp4 hk4 hk34 hr4
 (try dsimp only)
 (try go_simp)
 refine hK.out _ _ (HC9.out) (fun hHeld=> ?_);clear hK K;refine pt ?_;refine' tk 10 ?_;refine wpAnyH_done (by kernel_rfl) ?_ _;go_wp2_with fail;go_ret;exact⟨rfl,F4,HP4.out,HK4.out⟩
end Go.Proofs.YtohaldfnmgcofaaGreat
