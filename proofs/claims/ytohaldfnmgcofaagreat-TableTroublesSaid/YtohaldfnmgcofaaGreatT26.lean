/- A node that is too great is cut in two (half): an inner node. Conditions: a node that took one more than fits. -/
import Derived.Deep.CutBlock
import Derived.Test.YtohaldfnmgcofaaGreatT23
set_option maxRecDepth 100000
set_option maxHeartbeats 4000000
set_option linter.unusedSimpArgs false
set_option linter.unusedVariables false
namespace Go.Proofs.YtohaldfnmgcofaaGreat
open Go.RowKit
def Y3d(n:NodeD)(kv vv cv:Value)(w:World)(e:Ending)(w':World):Prop:=
 ∃(m:Nat) (kA1:Option Addr) (kn1 kc1:Nat) (vA1:Option Addr) (vn1 vc1:Nat) (cA1:Option Addr) (cn1 cc1:Nat) (kA2:Option Addr) (kn2 kc2:Nat) (vA2:Option Addr) (vn2 vc2:Nat) (cA2:Option Addr) (cn2 cc2:Nat) (mid:ByteArray),
  e= .returned (.tuple #[.agg #[.bool n.leaf,.slice kA1 kn1 kc1,.slice vA1 vn1 vc1,.slice cA1 cn1 cc1],.agg #[.bool n.leaf,.slice kA2 kn2 kc2,.slice vA2 vn2 vc2,.slice cA2 cn2 cc2],.string mid])/\HalfAt n m/\n.keys[m]? =some mid/\
  (∀W,NodeRd W n kv vv cv->NodeRd W (fst2 n m) (.slice kA1 kn1 kc1) (.slice vA1 vn1 vc1) (.slice cA1 cn1 cc1)/\NodeRd W (snd2 n m) (.slice kA2 kn2 kc2) (.slice vA2 vn2 vc2) (.slice cA2 cn2 cc2))/\Ext w w'
theorem NodeRd.fstI{w:World}{n:NodeD}{kA vA cA:Option Addr}{K V C kc vc cc:Nat}(h:NodeRd w n (.slice kA K kc) (.slice vA V vc) (.slice cA C cc))(hl:n.leaf=false)(m:Nat)(hm:m<=K)(hc:m+1<=C):NodeRd w (fst2 n m) (.slice kA m kc) (.slice none 0 0) (.slice cA (m+1) cc):=by rw[Z2c hl];exact⟨h.keys.take hm,Sl.nil _ _ _,h.kids.take hc⟩
theorem NodeRd.sndI{w:World}{n:NodeD}{vA:Option Addr}{kb ko cb co K V C kc vc cc:Nat}(h:NodeRd w n (.slice (some ⟨kb,ko,none⟩) K kc) (.slice vA V vc) (.slice (some ⟨cb,co,none⟩) C cc))(hl:n.leaf=false)(m:Nat)(hm:m+1<K)(hc:m+1<C):NodeRd w (snd2 n m) (.slice (some ⟨kb,ko+(m+1),none⟩) (K-(m+1)) (kc-(m+1))) (.slice none 0 0) (.slice (some ⟨cb,co+(m+1),none⟩) (C-(m+1)) (cc-(m+1))):=by rw[Z5r hl];have h1:=h.keys.drop (p:=m+1) (by omega);have h2:=h.kids.drop (p:=m+1) (by omega);obtain⟨_,g1,_,_⟩:=h.keys.at;obtain⟨_,g2,_,_⟩:=h.kids.at;obtain⟨e1,_,_,_⟩:=h.keys.at;obtain⟨e2,_,_,_⟩:=h.kids.at;rw[if_neg (by omega)]at h1 h2;simp only[Option.map_some,Addr.add_lit,Nat.mul_one]at h1 h2;exact⟨h1,Sl.nil _ _ _,h2⟩
theorem X4j{fn:Func}(h:fn.results= #[.cell 2 166,.cell 3 166,.tmp 4])(tmps:Array Value)(w:World)(A B:Nat)(b1:Bool)(k1 v1 c1:Value)(b2:Bool)(k2 v2 c2 v:Value)(hA:tmps.getD 2 undef= tp A)(hB:tmps.getD 3 undef= tp B)(hv:tmps.getD 4 undef=v)(ha:Row1 w A 166 [.bool b1,k1,v1,c1])(hb:Row1 w B 166 [.bool b2,k2,v2,c2]):
  (results fn tmps).run Tryz.prog w= .ok (.tuple #[.agg #[.bool b1,k1,v1,c1],.agg #[.bool b2,k2,v2,c2],v]) w:=by
 have a0:w.cell? ⟨A,0,none⟩=some (.bool b1):=ha.cell 0;have a1:w.cell? ⟨A,1,none⟩=some k1:=ha.cell 1;have a2:w.cell? ⟨A,2,none⟩=some v1:=ha.cell 2;have a3:w.cell? ⟨A,3,none⟩=some c1:=ha.cell 3;have d0:w.cell? ⟨B,0,none⟩=some (.bool b2):=hb.cell 0;have d1:w.cell? ⟨B,1,none⟩=some k2:=hb.cell 1;have d2:w.cell? ⟨B,2,none⟩=some v2:=hb.cell 2;have d3:w.cell? ⟨B,3,none⟩=some c2:=hb.cell 3;have hA':tmps[2]?.getD undef= tp A:=by simpa using hA
 have hB':tmps[3]?.getD undef= tp B:=by simpa using hB
 have hv':tmps[4]?.getD undef=v:=by simpa using hv
 simp only[results,h];simp[hA',hB',hv',asAddr,Sem.run_bind,Result.andThen]
 go_simp
theorem X8c{n:NodeD}{kv vv cv:Value}(w:World)(h:NodeRd w n kv vv cv)(hn:NodeFit n)(hl:n.leaf=false)(hbig:256<Z0n n):
  cQ 196 #[.agg #[.bool n.leaf,kv,vv,cv]] w (Y3d n kv vv cv w):=by
 have hedge:Z8s n=2:=if_neg (by rw[hl];decide);obtain⟨hvl,hkl⟩:=hn.ok.inner hl;have hK3:3<=n.keys.length:=by have h1:=Z3r hn.keys;have h5:Z0o []=0:=rfl;unfold Z0n at hbig;rw[hvl,hkl,h5]at hbig;omega
 have hmany:=hn.ok.many;obtain⟨kA,kc,rfl,hkc1,hkc2,hkx⟩:=Z3y h.keys;obtain⟨vA,vc,rfl,_,_,_⟩:=Z3y h.vals;obtain⟨cA,cc,rfl,hcc1,hcc2,hcx⟩:=Z9u h.kids;obtain⟨kb,ko,rfl,hkb,hkcell⟩:=hkx (by omega);obtain⟨cb,co,rfl,hcb,_⟩:=hcx (by omega);have cZ:Hid (∀W m,Ext w W->m+2<=n.keys.length->cQ 186 #[.agg #[.bool false,.slice (some ⟨kb,ko,none⟩) m kc,.slice none 0 0,.slice (some ⟨cb,co,none⟩) (m+1) cc]] W fun e w'=>e= .returned (.int .i64 (Z0n (fst2 n m)))/\Ext W w'):=fun W m hW hm=>by have q:=X2a W ((h.ext hW).fstI hl m (by omega) (by omega)) (Z5u hn.ok (by omega)).fair;rw[Z2c hl]at q ⊢;exact q
 have HSF:Hid (∀m,m<=n.keys.length->Z0n (fst2 n m)<=1000000):=fun m hm=>by
  have q1:=Z3r (l:=n.keys.take m) (q:=32) (fun k hk=>hn.keys k (List.mem_of_mem_take hk));have q2:(n.keys.take m).length<=255:=by rw[aD];omega
  have q3:(n.kids.take (m+1)).length<=256:=by rw[aD];omega
  have h5:Z0o []=0:=rfl;rw[Z2c hl];unfold Z0n;simp only[h5];omega
 have HN:=hD h;have HL:=hD hl;have HED:=hD hedge;have HKC:Hid (∀i (hi:i<n.keys.length),w.cell? ⟨kb,ko+i,none⟩=some (.string n.keys[i])):=hkcell;have HKB:=hD hkb;obtain⟨kz,hK⟩:∃kz,n.keys.length=kz:=⟨_,rfl⟩;have HK:=hD hK;have HV:Hid (n.vals.length=0):=by unfold Hid;rw[hvl];rfl
 have HC:Hid (n.kids.length=kz+1):=by unfold Hid;omega
 rw[hK]at hK3 hmany hkc1;rw[hkl,hK]at hcc1;have HX0:Hid (Ext w (((w.alloc (.cells #[.bool false,.slice (some ⟨kb,ko,none⟩) kz kc,.slice vA 0 vc,.slice (some ⟨cb,co,none⟩) (kz+1) cc] 166)).alloc (.cells #[.bool false,.slice none 0 0,.slice none 0 0,.slice none 0 0] 166)).alloc (.cells #[.bool false,.slice none 0 0,.slice none 0 0,.slice none 0 0] 166))):=by unfold Hid;exact Xt
 rw[hK,HV.out,HC.out,hl];obtain⟨w0,hw0⟩:∃w0,((w.alloc (.cells #[.bool false,.slice (some ⟨kb,ko,none⟩) kz kc,.slice vA 0 vc,.slice (some ⟨cb,co,none⟩) (kz+1) cc] 166)).alloc (.cells #[.bool false,.slice none 0 0,.slice none 0 0,.slice none 0 0] 166)).alloc (.cells #[.bool false,.slice none 0 0,.slice none 0 0,.slice none 0 0] 166)=w0:=⟨_,rfl⟩;have HW0:=hD hw0;have HR0:Hid (Row1 w0 w.heap.size 166 [.bool false,.slice (some ⟨kb,ko,none⟩) kz kc,.slice vA 0 vc,.slice (some ⟨cb,co,none⟩) (kz+1) cc]):=by unfold Hid;rw[<-hw0];exact((Row1.made w _ _).alloc _).alloc _
 have HKS:Hid (∀W,Ext w0 W->W.cell? ⟨w.heap.size,1,none⟩=some (.slice (some ⟨kb,ko,none⟩) kz kc)/\W.cell? ⟨w.heap.size,3,none⟩=some (.slice (some ⟨cb,co,none⟩) (kz+1) cc)):=fun W hW=>⟨(HR0.out.ext hW HR0.out.lt).cell 1,(HR0.out.ext hW HR0.out.lt).cell 3⟩;have HRa:Hid (Row1 w0 (w.heap.size+1) 166 [.bool false,.slice none 0 0,.slice none 0 0,.slice none 0 0]):=by unfold Hid;rw[<-hw0];exact Row1.alloc (Row1.made' (by simp) _ [.bool false,.slice none 0 0,.slice none 0 0,.slice none 0 0]) _
 have HRb:Hid (Row1 w0 (w.heap.size+1+1) 166 [.bool false,.slice none 0 0,.slice none 0 0,.slice none 0 0]):=by unfold Hid;rw[<-hw0];exact Row1.made' (by simp) _ [.bool false,.slice none 0 0,.slice none 0 0,.slice none 0 0]
 have HS0:Hid (w0.heap.size=w.heap.size+3):=by unfold Hid;rw[<-hw0];simp
 have HX1:Hid (Ext w w0):=by unfold Hid;rw[<-hw0];exact HX0.out
 have c0:w0.cell? ⟨w.heap.size,0,none⟩=some (.bool false):=HR0.out.cell 0;clear h hn hl hedge hvl hkl hkx hcx hkcell hK hbig hkb hcb HX0;go_enter Tryz.func196,Tryz.ntmps196
 go_upto_block 0 with fail
 clear hw0 HW0
 go_cut [5] (fun s wx=>∃m:Nat,s= .int .i64 m/\Hid (HalfAt n m)/\Hid (Ext w0 wx))
 case first=>
  go_wp2_with fail
  go_loopw [5] (fun s wr=>∃m:Nat,1<=m/\m+2<=kz/\s= .int .i64 m/\Hid (∀j,1<=j->j<m->Z0n (fst2 n j)<=128)/\Hid (Ext w0 wr)) (fun s _=>kz-(intOf s).toNat)
  case atStart=>exact⟨1,by omega,by omega,rfl,hD (fun j h1 h2=>by omega),hD (Ext.refl w0)⟩
  case round=>
   obtain⟨m,hm1,hm2,rfl,hlo,hxr⟩:=hrel;by_cases hmk:m+2<kz
   ·have cZ1:Hid (∀W,Ext w0 W->cQ 186 #[.agg #[.bool false,.slice (some ⟨kb,ko,none⟩) m kc,.slice none 0 0,.slice (some ⟨cb,co,none⟩) (m+1) cc]] W fun e w'=>e= .returned (.int .i64 (Z0n (fst2 n m)))/\Ext W w'):=fun W hW=>cZ.out W m (Ext.trans HX1.out hW) (by have:=HK.out;omega);have hsz:=HSF.out m (by have:=HK.out;omega);obtain⟨sz,hz⟩:∃sz,Z0n (fst2 n m)=sz:=⟨_,rfl⟩;rw[hz]at cZ1 hsz;have HZ:=hD hz;obtain⟨b,hb⟩:∃b,decide ((sz:Int)<=128)=b:=⟨_,rfl⟩;have HB:=hD hb;have q1:decide ((m:Int)<(kz:Int)-2)=true:=aN;have q2:(m:Int)<=kc:=by omega
    have q3:(m:Int)+1<=cc:=by omega
    have q4:IntKind.i64.wrap ((m:Int)+1)=(m:Int)+1:=by rw[IntKind.wrap_i64];omega
    have q6:(0:Int)<=(m:Int)+1:=by omega
    have q7:((m:Int)+1).toNat=m+1:=by omega
    have q5:IntKind.i64.wrap ((kz:Int)-2)=(kz:Int)-2:=by rw[IntKind.wrap_i64];omega
    clear hz;go_upto_region 3 with fail;refine wp_region_held_drew (S:=fun W=>W.cell? ⟨w.heap.size,1,none⟩=some (.slice (some ⟨kb,ko,none⟩) kz kc)/\W.cell? ⟨w.heap.size,3,none⟩=some (.slice (some ⟨cb,co,none⟩) (kz+1) cc)) (by kernel_rfl) (HKS.out _ (by exact Xx (hxr.out))) (fun hHeld=> ?_);refine' tk 0 ?_;refine' tk 1 ?_;refine' tk 2 ?_;refine' tk 3 ?_;refine' tk 4 ?_;refine' tk 5 ?_;refine' tk 6 ?_;refine' tk 7 ?_;refine' tk 8 ?_;refine' tk 9 ?_;refine' tk 10 ?_;refine' tk 11 ?_;refine' tk 12 ?_;refine' tk 13 ?_;refine' tk 14 ?_;refine' tk 15 ?_;refine' tk 16 ?_;refine stp 17 (fun K hK=> ?_);go_simp
    (with_reducible refine(cZ1.out _ ?_).mono ?_)
    ·exact Xx (hxr.out)
    rintro e w4 ⟨rfl,hb4⟩;have HB7:Hid (Ext w0 w4):=Ext.trans (by exact Xx (hxr.out)) hb4;clear hb4
    (try dsimp only)
    (try go_simp)
    refine hK.out _ _ (HKS.out _ HB7.out) (fun hHeld=> ?_);clear hK K;refine pt ?_;refine' tk 18 ?_;refine' tk 19 ?_;refine wpAnyH_done (by kernel_rfl) ?_ _;cases b
    ·go_wp2_with fail
     go_meet
     exact⟨m,rfl,⟨hm1,by rw[HED.out,HK.out];exact hm2,hlo.out,fun _=>by rw[HZ.out];have:=of_decide_eq_false HB.out;omega⟩,HB7⟩
    ·go_wp2_with fail
     go_roundw
     case rel=>
      refine⟨m+1,by omega,by omega,by go_num,hD (fun j h1 h2=> ?_),HB7⟩;by_cases e:j=m
      ·subst e;rw[HZ.out];have:=of_decide_eq_true HB.out;omega
      ·exact hlo.out j h1 (by omega)
     case measure=>simp[intOf];omega
   ·have hme:m+2=kz:=by omega
    have HME:=hD hme;have q1:decide ((m:Int)<(kz:Int)-2)=false:=aM;have q5:IntKind.i64.wrap ((kz:Int)-2)=(kz:Int)-2:=by rw[IntKind.wrap_i64];omega
    clear hme;go_upto_region 3 with fail;refine wp_region_held_drew (S:=fun W=>W.cell? ⟨w.heap.size,1,none⟩=some (.slice (some ⟨kb,ko,none⟩) kz kc)/\W.cell? ⟨w.heap.size,3,none⟩=some (.slice (some ⟨cb,co,none⟩) (kz+1) cc)) (by kernel_rfl) (HKS.out _ (by exact Xx (hxr.out))) (fun hHeld=> ?_);refine' tk 0 ?_;refine' tk 1 ?_;refine' tk 2 ?_;refine' tk 3 ?_;refine' tk 4 ?_;refine' tk 5 ?_;refine' tk 6 ?_;refine' tkn 7 ?_;refine' tkn 8 ?_;refine' tkn 9 ?_;refine' tkn 10 ?_;refine' tkn 11 ?_;refine' tkn 12 ?_;refine' tkn 13 ?_;refine' tkn 14 ?_;refine' tkn 15 ?_;refine' tkn 16 ?_;refine' tkn 17 ?_;refine' tkn 18 ?_;refine' tk 19 ?_;refine wpAnyH_done (by kernel_rfl) ?_ _;go_wp2_with fail
    go_meet
    exact⟨m,rfl,⟨hm1,by rw[HED.out,HK.out];exact hm2,hlo.out,fun q=>by rw[HED.out,HK.out]at q;have:=HME.out;omega⟩,hD (by exact Xx (hxr.out))⟩
 case rest=>
 obtain⟨m,rfl,hh,hxc⟩:=hcut;have hm1:=hh.out.one;have hm2:m+2<=kz:=by have:=hh.out.lt;rw[HED.out,HK.out]at this;exact this
 have hzc:=hxc.out.size;have q2:(m:Int)<=kc:=by omega
 have q3:(m:Int)+1<=cc:=by omega
 have q6:(0:Int)<=(m:Int)+1:=by omega
 have q7:((m:Int)+1).toNat=m+1:=by omega
 have q4:IntKind.i64.wrap ((m:Int)+1)=(m:Int)+1:=by rw[IntKind.wrap_i64];omega
 have hz0:w0.heap.size=w.heap.size+3:=HS0.out;go_upto_region 5 with fail;refine wp_region_held_drew (S:=fun W=>W.cell? ⟨w.heap.size,1,none⟩=some (.slice (some ⟨kb,ko,none⟩) kz kc)/\W.cell? ⟨w.heap.size,3,none⟩=some (.slice (some ⟨cb,co,none⟩) (kz+1) cc)) (by kernel_rfl) (HKS.out _ (by exact Xx (hxc.out))) (fun hHeld=> ?_);refine' tk 0 ?_;refine' tk 1 ?_;refine' tk 2 ?_;refine' tk 3 ?_;refine' tk 4 ?_;refine' tk 5 ?_;refine' tk 6 ?_;refine' tk 7 ?_;refine' tk 8 ?_;refine' tk 9 ?_;refine stp 10 (fun K hK=> ?_);go_simp
 skip
 refine hK.out _ _ (HKS.out _ (by exact Xx (hxc.out))) (fun hHeld=> ?_);clear hK K;refine pt ?_;refine stp 11 (fun K hK=> ?_);go_simp;generalize hw5:World.drew _=w5;have HX5:Hid (Ext w0 w5):=by unfold Hid;rw[<-hw5];exact Xx (hxc.out)
 have HR5:Hid (Row1 w5 wc.heap.size 166 [.bool false,.slice (some ⟨kb,ko,none⟩) m kc,.slice none 0 0,.slice (some ⟨cb,co,none⟩) (m+1) cc]):=by unfold Hid;rw[<-hw5];exact(Row1.made wc _ [.bool false,.slice (some ⟨kb,ko,none⟩) m kc,.slice none 0 0,.slice (some ⟨cb,co,none⟩) (m+1) cc]).same rfl
 have hz5:w5.heap.size=wc.heap.size+1:=by rw[<-hw5];simp[World.drew]
 clear hw5;refine hK.out _ _ (HKS.out _ HX5.out) (fun hHeld=> ?_);clear hK K;refine pt ?_;refine wpAnyH_done (by kernel_rfl) ?_ _;have q8:¬kc=m+1:=by omega
 have q9:¬cc=m+1:=by omega
 have q10:(m:Int)+1<=(kz:Int):=by omega
 have q11:(m:Int)+1<=(kz:Int)+1:=by omega
 go_upto_region 6 with fail;refine wp_region_held_drew (S:=fun W=>W.cell? ⟨w.heap.size,1,none⟩=some (.slice (some ⟨kb,ko,none⟩) kz kc)/\W.cell? ⟨w.heap.size,3,none⟩=some (.slice (some ⟨cb,co,none⟩) (kz+1) cc)) (by kernel_rfl) (HKS.out _ (by exact Xx (HX5.out))) (fun hHeld=> ?_);refine' tk 0 ?_;refine' tk 1 ?_;refine' tk 2 ?_;refine' tk 3 ?_;refine' tk 4 ?_;refine' tk 5 ?_;refine' tk 6 ?_;refine' tk 7 ?_;refine' tk 8 ?_;refine' tk 9 ?_;refine' tk 10 ?_;refine stp 11 (fun K hK=> ?_);go_simp
 skip
 refine hK.out _ _ (HKS.out _ (by exact Xx (HX5.out))) (fun hHeld=> ?_);clear hK K;refine pt ?_;refine stp 12 (fun K hK=> ?_);go_simp;generalize hw6:World.drew _=w6;have hx56:Ext w5 w6:=by rw[<-hw6];exact Xt
 have HX6:Hid (Ext w0 w6):=Ext.trans HX5.out hx56;have HR6:Hid (Row1 w6 (wc.heap.size+1) 166 [.bool false,.slice (some ⟨kb,ko+(m+1),none⟩) (kz-(m+1)) (kc-(m+1)),.slice none 0 0,.slice (some ⟨cb,co+(m+1),none⟩) (kz-m) (cc-(m+1))]):=by unfold Hid;rw[<-hw6,<-hz5];exact(Row1.made w5 _ [.bool false,.slice (some ⟨kb,ko+(m+1),none⟩) (kz-(m+1)) (kc-(m+1)),.slice none 0 0,.slice (some ⟨cb,co+(m+1),none⟩) (kz-m) (cc-(m+1))]).same rfl
 have HR56:Hid (Row1 w6 wc.heap.size 166 [.bool false,.slice (some ⟨kb,ko,none⟩) m kc,.slice none 0 0,.slice (some ⟨cb,co,none⟩) (m+1) cc]):=HR5.out.ext hx56 HR5.out.lt;clear hw6;refine hK.out _ _ (HKS.out _ HX6.out) (fun hHeld=> ?_);clear hK K;refine pt ?_;refine wpAnyH_done (by kernel_rfl) ?_ _;have hmn:m<n.keys.length:=by rw[HK.out];omega
 have HMID:Hid (n.keys[m]? =some n.keys[m]):=aB hmn;obtain⟨mid,hmid⟩:∃mid,n.keys[m]=mid:=⟨_,rfl⟩;have HCM:=hD (HKC.out m hmn);rw[hmid]at HMID HCM;have HKS7:Hid (∀W,Only (fun j=>j=w.heap.size+1\/j=w.heap.size+1+1) w6 W->(W.cell? ⟨w.heap.size,1,none⟩=some (.slice (some ⟨kb,ko,none⟩) kz kc)/\W.cell? ⟨kb,ko+m,none⟩=some (.string mid))/\(W.cell? ⟨wc.heap.size,0,none⟩=some (.bool false)/\W.cell? ⟨wc.heap.size,1,none⟩=some (.slice (some ⟨kb,ko,none⟩) m kc)/\W.cell? ⟨wc.heap.size,2,none⟩=some (.slice none 0 0)/\W.cell? ⟨wc.heap.size,3,none⟩=some (.slice (some ⟨cb,co,none⟩) (m+1) cc))/\
   W.cell? ⟨wc.heap.size+1,0,none⟩=some (.bool false)/\W.cell? ⟨wc.heap.size+1,1,none⟩=some (.slice (some ⟨kb,ko+(m+1),none⟩) (kz-(m+1)) (kc-(m+1)))/\W.cell? ⟨wc.heap.size+1,2,none⟩=some (.slice none 0 0)/\W.cell? ⟨wc.heap.size+1,3,none⟩=some (.slice (some ⟨cb,co+(m+1),none⟩) (kz-m) (cc-(m+1)))):=fun W hW=>by
  have hr1:=hW.row HR56.out (fun q=>by omega);have hr2:=hW.row HR6.out (fun q=>by omega);have hr0:=hW.row (HR0.out.ext HX6.out HR0.out.lt) (fun q=>by omega);refine⟨⟨hr0.cell 1,?_⟩,⟨hr1.cell 0,hr1.cell 1,hr1.cell 2,hr1.cell 3⟩,hr2.cell 0,hr2.cell 1,hr2.cell 2,hr2.cell 3⟩;have hkl:=HKB.out;have hz6:=HX6.out.size;exact(World.cell?_of_block (hW.block kb (by omega) (fun q=>by omega))).trans (((Ext.trans HX1.out HX6.out).cell (p:=⟨kb,ko+m,none⟩) hkl).trans HCM.out)
 have e0:0<=(m:Int):=by omega
 have e1:(m:Int)<(kz:Int):=by omega
 have e2:m<kz:=by omega
 clear hmid;go_upto_region 7 with fail;refine wp_region_held_drew (S:=fun W=>(W.cell? ⟨w.heap.size,1,none⟩=some (.slice (some ⟨kb,ko,none⟩) kz kc)/\W.cell? ⟨kb,ko+m,none⟩=some (.string mid))/\(W.cell? ⟨wc.heap.size,0,none⟩=some (.bool false)/\W.cell? ⟨wc.heap.size,1,none⟩=some (.slice (some ⟨kb,ko,none⟩) m kc)/\W.cell? ⟨wc.heap.size,2,none⟩=some (.slice none 0 0)/\W.cell? ⟨wc.heap.size,3,none⟩=some (.slice (some ⟨cb,co,none⟩) (m+1) cc))/\W.cell? ⟨wc.heap.size+1,0,none⟩=some (.bool false)/\W.cell? ⟨wc.heap.size+1,1,none⟩=some (.slice (some ⟨kb,ko+(m+1),none⟩) (kz-(m+1)) (kc-(m+1)))/\W.cell? ⟨wc.heap.size+1,2,none⟩=some (.slice none 0 0)/\W.cell? ⟨wc.heap.size+1,3,none⟩=some (.slice (some ⟨cb,co+(m+1),none⟩) (kz-m) (cc-(m+1)))) (by kernel_rfl) (HKS7.out _ (Only.of (by exact Xt))) (fun hHeld=> ?_);refine' tk 0 ?_;refine' tk 1 ?_;refine' tk 2 ?_;refine' tk 3 ?_;refine' tk 4 ?_;refine' tk 5 ?_;refine' tk 6 ?_;have hra:=HRa.out.ext HX6.out HRa.out.lt;have x0:=hra.cell 0;have x1:=hra.cell 1;have x2:=hra.cell 2;have x3:=hra.cell 3;have y0:=hra.soft 0;have y1:=hra.soft 1;have y2:=hra.soft 2;have y3:=hra.soft 3;have HA6:=hD hra;clear hra;refine stp 7 (fun K hK=> ?_);go_simp;generalize hw7:World.drew _=w7;have ho7:Only (fun j=>j=w.heap.size+1) w6 w7:=by rw[<-hw7];exact(X0l (w:=w6) (w.heap.size+1) _ _ _ _).ext (by exact Xt)
 have HO7:Hid (Only (fun j=>j=w.heap.size+1\/j=w.heap.size+1+1) w6 w7):=ho7.mono (fun j q=> .inl (.inl q));have HA7:Hid (Row1 w7 (w.heap.size+1) 166 [.bool false,.slice (some ⟨kb,ko,none⟩) m kc,.slice none 0 0,.slice (some ⟨cb,co,none⟩) (m+1) cc]):=by unfold Hid;rw[<-hw7];exact((((HA6.out.set 0 (.bool false)).set 1 (.slice (some ⟨kb,ko,none⟩) m kc)).set 2 (.slice none 0 0)).set 3 (.slice (some ⟨cb,co,none⟩) (m+1) cc)).same rfl
 have HB7:Hid (Row1 w7 (w.heap.size+1+1) 166 [.bool false,.slice none 0 0,.slice none 0 0,.slice none 0 0]):=ho7.row (HRb.out.ext HX6.out HRb.out.lt) (fun q=>by omega);clear hw7 ho7 x0 x1 x2 x3 y0 y1 y2 y3;refine hK.out _ _ (HKS7.out _ HO7.out) (fun hHeld=> ?_);clear hK K;refine pt ?_;have hrb:=HB7.out;have x0:=hrb.cell 0;have x1:=hrb.cell 1;have x2:=hrb.cell 2;have x3:=hrb.cell 3;have y0:=hrb.soft 0;have y1:=hrb.soft 1;have y2:=hrb.soft 2;have y3:=hrb.soft 3;clear hrb;refine stp 8 (fun K hK=> ?_);go_simp;generalize hw8:World.setCell _ _ _=w8;have ho8:Only (fun j=>j=w.heap.size+1+1) w7 w8:=by rw[<-hw8];exact X0l (w:=w7) (w.heap.size+1+1) _ _ _ _
 have HO8:Hid (Only (fun j=>j=w.heap.size+1\/j=w.heap.size+1+1) w6 w8):=HO7.out.trans' (ho8.mono (fun j q=> .inl (.inr q)));have HA8:Hid (Row1 w8 (w.heap.size+1) 166 [.bool false,.slice (some ⟨kb,ko,none⟩) m kc,.slice none 0 0,.slice (some ⟨cb,co,none⟩) (m+1) cc]):=ho8.row HA7.out (fun q=>by omega);have HB8:Hid (Row1 w8 (w.heap.size+1+1) 166 [.bool false,.slice (some ⟨kb,ko+(m+1),none⟩) (kz-(m+1)) (kc-(m+1)),.slice none 0 0,.slice (some ⟨cb,co+(m+1),none⟩) (kz-m) (cc-(m+1))]):=by unfold Hid;rw[<-hw8];exact((((HB7.out.set 0 (.bool false)).set 1 (.slice (some ⟨kb,ko+(m+1),none⟩) (kz-(m+1)) (kc-(m+1)))).set 2 (.slice none 0 0)).set 3 (.slice (some ⟨cb,co+(m+1),none⟩) (kz-m) (cc-(m+1))))
 clear hw8 ho8 x0 x1 x2 x3 y0 y1 y2 y3;refine hK.out _ _ (HKS7.out _ HO8.out) (fun hHeld=> ?_);clear hK K;refine pt ?_;refine' tk 9 ?_;refine wpAnyH_done (by kernel_rfl) ?_ _;go_wp2_with fail;refine bodyPost_ret (X4j rfl _ _ (w.heap.size+1) (w.heap.size+1+1) _ _ _ _ _ _ _ _ (.string mid) rfl rfl rfl HA8.out HB8.out) rfl ?_;have HX8:Ext w w8:=Only.toExt (F:=fun j=>w.heap.size<=j) (((Only.of (Ext.trans HX1.out HX6.out)).trans' (HO8.out.mono (fun j q=> .inl (by omega))))) (fun _ q=>q);refine⟨m,_,_,_,_,_,_,_,_,_,_,_,_,_,_,_,_,_,_,mid,by rw[HL.out],hh.out,HMID.out,fun W hrd=> ?_,HX8⟩;have h1:=hrd.fstI HL.out m (by omega) (by omega);have h2:=hrd.sndI HL.out m (by omega) (by omega);rw[show kz+1-(m+1)=kz-m by omega]at h2;exact⟨h1,h2⟩
theorem NodeRd.fstL{w:World}{n:NodeD}{kA vA cA:Option Addr}{K V C kc vc cc:Nat}(h:NodeRd w n (.slice kA K kc) (.slice vA V vc) (.slice cA C cc))(hl:n.leaf=true)(m:Nat)(hm:m<=K)(hc:m<=V):NodeRd w (fst2 n m) (.slice kA m kc) (.slice vA m vc) (.slice none 0 0):=by rw[Z3h hl];exact⟨h.keys.take hm,h.vals.take hc,Sl.nil _ _ _⟩
theorem NodeRd.sndL{w:World}{n:NodeD}{cA:Option Addr}{kb ko vb vo K V C kc vc cc:Nat}(h:NodeRd w n (.slice (some ⟨kb,ko,none⟩) K kc) (.slice (some ⟨vb,vo,none⟩) V vc) (.slice cA C cc))(hl:n.leaf=true)(m:Nat)(hm:m<K)(hc:m<V):NodeRd w (snd2 n m) (.slice (some ⟨kb,ko+m,none⟩) (K-m) (kc-m)) (.slice (some ⟨vb,vo+m,none⟩) (V-m) (vc-m)) (.slice none 0 0):=by rw[Z9t hl];have h1:=h.keys.drop (p:=m) (by omega);have h2:=h.vals.drop (p:=m) (by omega);obtain⟨e1,g1,_,_⟩:=h.keys.at;obtain⟨e2,g2,_,_⟩:=h.vals.at;rw[if_neg (by omega)]at h1 h2;simp only[Option.map_some,Addr.add_lit,Nat.mul_one]at h1 h2;exact⟨h1,h2,Sl.nil _ _ _⟩
theorem V3f{n:NodeD}{kv vv cv:Value}(w:World)(h:NodeRd w n kv vv cv)(hn:NodeFit n)(hl:n.leaf=true)(hbig:256<Z0n n):
  cQ 196 #[.agg #[.bool n.leaf,kv,vv,cv]] w (Y3d n kv vv cv w):=by
 have hedge:Z8s n=1:=if_pos hl;obtain⟨hvl,hkl⟩:=hn.ok.leafs hl;have hK3:3<=n.keys.length:=by have h1:=Z3r hn.keys;have h2:=Z3r hn.vals;unfold Z0n at hbig;rw[hkl]at hbig;simp only[List.length_nil]at hbig;omega
 have hmany:=hn.ok.many;obtain⟨kA,kc,rfl,hkc1,hkc2,hkx⟩:=Z3y h.keys;obtain⟨vA,vc,rfl,hvc1,hvc2,hvx⟩:=Z3y h.vals;obtain⟨cA,cc,rfl,hcc1,hcc2,hcx⟩:=Z9u h.kids;obtain⟨kb,ko,rfl,hkb,hkcell⟩:=hkx (by omega);obtain⟨vb,vo,rfl,hvb,_⟩:=hvx (by omega);have cZ:Hid (∀W m,Ext w W->m+1<=n.keys.length->cQ 186 #[.agg #[.bool true,.slice (some ⟨kb,ko,none⟩) m kc,.slice (some ⟨vb,vo,none⟩) m vc,.slice none 0 0]] W fun e w'=>e= .returned (.int .i64 (Z0n (fst2 n m)))/\Ext W w'):=fun W m hW hm=>by have q:=X2a W ((h.ext hW).fstL hl m (by omega) (by omega)) (Z5u hn.ok (by omega)).fair;rw[Z3h hl]at q ⊢;exact q
 have HSF:Hid (∀m,m<=n.keys.length->Z0n (fst2 n m)<=1000000):=fun m hm=>by
  have q1:=Z3r (l:=n.keys.take m) (q:=32) (fun k hk=>hn.keys k (List.mem_of_mem_take hk));have q4:=Z3r (l:=n.vals.take m) (q:=80) (fun k hk=>hn.vals k (List.mem_of_mem_take hk));have q2:(n.keys.take m).length<=255:=by rw[aD];omega
  have q3:(n.vals.take m).length<=255:=by rw[aD];omega
  rw[Z3h hl];unfold Z0n;simp only[List.length_nil];omega
 have HHS:Hid (∀m,HalfAt n m->Z0n (fst2 n m)<=256):=fun m hm=>(Z6a hn hm).1;have HN:=hD h;have HL:=hD hl;have HED:=hD hedge;have HKC:Hid (∀i (hi:i<n.keys.length),w.cell? ⟨kb,ko+i,none⟩=some (.string n.keys[i])):=hkcell;have HKB:=hD hkb;obtain⟨kz,hK⟩:∃kz,n.keys.length=kz:=⟨_,rfl⟩;have HK:=hD hK;have HV:Hid (n.vals.length=kz):=by unfold Hid;omega
 have HC:Hid (n.kids.length=0):=by unfold Hid;rw[hkl];rfl
 rw[hK]at hK3 hmany hkc1;rw[hvl,hK]at hvc1;rw[hK,HV.out,HC.out,hl];obtain⟨w0,hw0⟩:∃w0,((w.alloc (.cells #[.bool true,.slice (some ⟨kb,ko,none⟩) kz kc,.slice (some ⟨vb,vo,none⟩) kz vc,.slice cA 0 cc] 166)).alloc (.cells #[.bool false,.slice none 0 0,.slice none 0 0,.slice none 0 0] 166)).alloc (.cells #[.bool false,.slice none 0 0,.slice none 0 0,.slice none 0 0] 166)=w0:=⟨_,rfl⟩;have HR0:Hid (Row1 w0 w.heap.size 166 [.bool true,.slice (some ⟨kb,ko,none⟩) kz kc,.slice (some ⟨vb,vo,none⟩) kz vc,.slice cA 0 cc]):=by unfold Hid;rw[<-hw0];exact((Row1.made w _ _).alloc _).alloc _
 have HKS:Hid (∀W,Ext w0 W->W.cell? ⟨w.heap.size,1,none⟩=some (.slice (some ⟨kb,ko,none⟩) kz kc)/\W.cell? ⟨w.heap.size,2,none⟩=some (.slice (some ⟨vb,vo,none⟩) kz vc)):=fun W hW=>⟨(HR0.out.ext hW HR0.out.lt).cell 1,(HR0.out.ext hW HR0.out.lt).cell 2⟩;have HRa:Hid (Row1 w0 (w.heap.size+1) 166 [.bool false,.slice none 0 0,.slice none 0 0,.slice none 0 0]):=by unfold Hid;rw[<-hw0];exact Row1.alloc (Row1.made' (by simp) _ [.bool false,.slice none 0 0,.slice none 0 0,.slice none 0 0]) _
 have HRb:Hid (Row1 w0 (w.heap.size+1+1) 166 [.bool false,.slice none 0 0,.slice none 0 0,.slice none 0 0]):=by unfold Hid;rw[<-hw0];exact Row1.made' (by simp) _ [.bool false,.slice none 0 0,.slice none 0 0,.slice none 0 0]
 have HS0:Hid (w0.heap.size=w.heap.size+3):=by unfold Hid;rw[<-hw0];simp
 have HX1:Hid (Ext w w0):=by unfold Hid;rw[<-hw0];exact Xt
 have c0:w0.cell? ⟨w.heap.size,0,none⟩=some (.bool true):=HR0.out.cell 0;clear h hn hl hedge hvl hkl hkx hcx hvx hkcell hK hbig hkb hvb hcc1 hcc2;go_enter Tryz.func196,Tryz.ntmps196
 go_upto_block 2 with fail
 clear hw0
 go_cut [5] (fun s wx=>∃m:Nat,s= .int .i64 m/\Hid (HalfAt n m)/\Hid (Ext w0 wx))
 case first=>
  go_wp2_with fail
  go_loopw [5] (fun s wr=>∃m:Nat,1<=m/\m+1<=kz/\s= .int .i64 m/\Hid (∀j,1<=j->j<m->Z0n (fst2 n j)<=128)/\Hid (Ext w0 wr)) (fun s _=>kz-(intOf s).toNat)
  case atStart=>exact⟨1,by omega,by omega,rfl,hD (fun j h1 h2=>by omega),hD (Ext.refl w0)⟩
  case round=>
   obtain⟨m,hm1,hm2,rfl,hlo,hxr⟩:=hrel;obtain⟨z1,z2⟩:=HKS.out _ hxr.out;by_cases hmk:m+1<kz
   ·have cZ1:Hid (∀W,Ext w0 W->cQ 186 #[.agg #[.bool true,.slice (some ⟨kb,ko,none⟩) m kc,.slice (some ⟨vb,vo,none⟩) m vc,.slice none 0 0]] W fun e w'=>e= .returned (.int .i64 (Z0n (fst2 n m)))/\Ext W w'):=fun W hW=>cZ.out W m (Ext.trans HX1.out hW) (by have:=HK.out;omega);have hsz:=HSF.out m (by have:=HK.out;omega);obtain⟨sz,hz⟩:∃sz,Z0n (fst2 n m)=sz:=⟨_,rfl⟩;rw[hz]at cZ1 hsz;have HZ:=hD hz;obtain⟨b,hb⟩:∃b,decide ((128:Int)<(sz:Int))=b:=⟨_,rfl⟩;have HB:=hD hb;have q1:decide ((m:Int)<(kz:Int)-1)=true:=aN;have q2:(m:Int)<=kc:=by omega
    have q3:(m:Int)<=vc:=by omega
    clear hz;go_upto_region 11 with fail;refine wp_region_held_drew (S:=fun W=>W.cell? ⟨w.heap.size,1,none⟩=some (.slice (some ⟨kb,ko,none⟩) kz kc)/\W.cell? ⟨w.heap.size,2,none⟩=some (.slice (some ⟨vb,vo,none⟩) kz vc)) (by kernel_rfl) (HKS.out _ (by exact Xx (hxr.out))) (fun hHeld=> ?_);refine' tk 0 ?_;refine' tk 1 ?_;refine' tk 2 ?_;refine' tk 3 ?_;refine' tk 4 ?_;refine' tk 5 ?_;refine' tk 6 ?_;refine' tk 7 ?_;refine' tk 8 ?_;refine stp 9 (fun K hK=> ?_);go_simp
    (with_reducible refine(cZ1.out _ ?_).mono ?_)
    ·exact Xx (hxr.out)
    rintro e w4 ⟨rfl,hb4⟩;have HB7:Hid (Ext w0 w4):=Ext.trans (by exact Xx (hxr.out)) hb4;clear hb4
    (try dsimp only)
    (try go_simp)
    refine hK.out _ _ (HKS.out _ HB7.out) (fun hHeld=> ?_);clear hK K;refine pt ?_;refine' tk 10 ?_;refine wpAnyH_done (by kernel_rfl) ?_ _;cases b
    ·go_wp2_with fail
     go_roundw
     case rel=>
      refine⟨m+1,by omega,by omega,by go_num,hD (fun j h1 h2=> ?_),HB7⟩;by_cases e:j=m
      ·subst e;rw[HZ.out];have:=of_decide_eq_false HB.out;omega
      ·exact hlo.out j h1 (by omega)
     case measure=>simp[intOf];omega
    ·go_wp2_with fail
     go_meet
     exact⟨m,rfl,⟨hm1,by rw[HED.out,HK.out];exact hm2,hlo.out,fun _=>by rw[HZ.out];have:=of_decide_eq_true HB.out;omega⟩,HB7⟩
   ·have hme:m+1=kz:=by omega
    have HME:=hD hme;have q1:decide ((m:Int)<(kz:Int)-1)=false:=aM;clear hme;go_wp2_with fail
    go_meet
    exact⟨m,rfl,⟨hm1,by rw[HED.out,HK.out];exact hm2,hlo.out,fun q=>by rw[HED.out,HK.out]at q;have:=HME.out;omega⟩,hxr⟩
 case rest=>
 obtain⟨m,rfl,hh,hxc⟩:=hcut;have hm1:=hh.out.one;have hm2:m+1<=kz:=by have:=hh.out.lt;rw[HED.out,HK.out]at this;exact this
 have hzc:=hxc.out.size;have q2:(m:Int)<=kc:=by omega
 have q3:(m:Int)<=vc:=by omega
 have hz0:w0.heap.size=w.heap.size+3:=HS0.out
 go_upto_block 4 with fail
 go_cut [5] (fun s wx=>s= .int .i64 m/\Hid (Ext w0 wx))
 case first=>
  go_wp2_with fail
  go_loopw [5] (fun s wr=>s= .int .i64 m/\Hid (Ext w0 wr)) (fun s _=>0)
  case atStart=>exact⟨rfl,hxc⟩
  case round=>
   obtain⟨rfl,hxr⟩:=hrel;by_cases he:m=1
   ·subst he;have q1:decide ((1:Int)<((1:Nat):Int))=false:=by decide
    go_upto_region 12 with fail;refine wp_region_held_drew (S:=fun W=>W.cell? ⟨w.heap.size,1,none⟩=some (.slice (some ⟨kb,ko,none⟩) kz kc)/\W.cell? ⟨w.heap.size,2,none⟩=some (.slice (some ⟨vb,vo,none⟩) kz vc)) (by kernel_rfl) (HKS.out _ (by exact Xx (hxr.out))) (fun hHeld=> ?_);refine' tk 0 ?_;refine' tk 1 ?_;refine' tk 2 ?_;refine' tkn 3 ?_;refine' tkn 4 ?_;refine' tkn 5 ?_;refine' tkn 6 ?_;refine' tkn 7 ?_;refine' tkn 8 ?_;refine' tkn 9 ?_;refine' tkn 10 ?_;refine' tkn 11 ?_;refine' tkn 12 ?_;refine' tkn 13 ?_;refine' tk 14 ?_;refine wpAnyH_done (by kernel_rfl) ?_ _;go_wp2_with fail
    go_meet
    exact⟨rfl,hD (by exact Xx (hxr.out))⟩
   ·have cZ1:Hid (∀W,Ext w0 W->cQ 186 #[.agg #[.bool true,.slice (some ⟨kb,ko,none⟩) m kc,.slice (some ⟨vb,vo,none⟩) m vc,.slice none 0 0]] W fun e w'=>e= .returned (.int .i64 (Z0n (fst2 n m)))/\Ext W w'):=fun W hW=>cZ.out W m (Ext.trans HX1.out hW) (by have:=HK.out;omega);have hsz:=HHS.out m hh.out;obtain⟨sz,hz⟩:∃sz,Z0n (fst2 n m)=sz:=⟨_,rfl⟩;rw[hz]at cZ1 hsz;have q1:decide ((1:Int)<(m:Int))=true:=aN;have q4:decide ((256:Int)<(sz:Int))=false:=aM;clear hz;go_upto_region 12 with fail;refine wp_region_held_drew (S:=fun W=>W.cell? ⟨w.heap.size,1,none⟩=some (.slice (some ⟨kb,ko,none⟩) kz kc)/\W.cell? ⟨w.heap.size,2,none⟩=some (.slice (some ⟨vb,vo,none⟩) kz vc)) (by kernel_rfl) (HKS.out _ (by exact Xx (hxr.out))) (fun hHeld=> ?_);refine' tk 0 ?_;refine' tk 1 ?_;refine' tk 2 ?_;refine' tk 3 ?_;refine' tk 4 ?_;refine' tk 5 ?_;refine' tk 6 ?_;refine' tk 7 ?_;refine' tk 8 ?_;refine' tk 9 ?_;refine' tk 10 ?_;refine' tk 11 ?_;refine stp 12 (fun K hK=> ?_);go_simp
    (with_reducible refine(cZ1.out _ ?_).mono ?_)
    ·exact Xx (hxr.out)
    rintro e w4 ⟨rfl,hb4⟩;have HB7:Hid (Ext w0 w4):=Ext.trans (by exact Xx (hxr.out)) hb4;clear hb4
    (try dsimp only)
    (try go_simp)
    refine hK.out _ _ (HKS.out _ HB7.out) (fun hHeld=> ?_);clear hK K;refine pt ?_;refine' tk 13 ?_;refine' tk 14 ?_;refine wpAnyH_done (by kernel_rfl) ?_ _;go_wp2_with fail
    go_meet
    exact⟨rfl,HB7⟩
 case rest=>
 have hcut':=hcut;clear hxc hzc hcut;obtain⟨rfl,hxc⟩:=hcut';have hzc:=hxc.out.size;have q6:(0:Int)<=(m:Int):=by omega
 have q8:¬kc=m:=by omega
 have q9:¬vc=m:=by omega
 have q10:(m:Int)<=(kz:Int):=by omega
 go_upto_region 14 with fail;refine wp_region_held_drew (S:=fun W=>W.cell? ⟨w.heap.size,1,none⟩=some (.slice (some ⟨kb,ko,none⟩) kz kc)/\W.cell? ⟨w.heap.size,2,none⟩=some (.slice (some ⟨vb,vo,none⟩) kz vc)) (by kernel_rfl) (HKS.out _ (by exact Xx (hxc.out))) (fun hHeld=> ?_);refine' tk 0 ?_;refine' tk 1 ?_;refine' tk 2 ?_;refine' tk 3 ?_;refine' tk 4 ?_;refine' tk 5 ?_;refine' tk 6 ?_;refine' tk 7 ?_;refine' tk 8 ?_;refine stp 9 (fun K hK=> ?_);go_simp
 skip
 refine hK.out _ _ (HKS.out _ (by exact Xx (hxc.out))) (fun hHeld=> ?_);clear hK K;refine pt ?_;refine stp 10 (fun K hK=> ?_);go_simp;generalize hw5:World.drew _=w5;have HX5:Hid (Ext w0 w5):=by unfold Hid;rw[<-hw5];exact Xx (hxc.out)
 have HR5:Hid (Row1 w5 wc.heap.size 166 [.bool true,.slice (some ⟨kb,ko,none⟩) m kc,.slice (some ⟨vb,vo,none⟩) m vc,.slice none 0 0]):=by unfold Hid;rw[<-hw5];exact(Row1.made wc _ [.bool true,.slice (some ⟨kb,ko,none⟩) m kc,.slice (some ⟨vb,vo,none⟩) m vc,.slice none 0 0]).same rfl
 have hz5:w5.heap.size=wc.heap.size+1:=by rw[<-hw5];simp[World.drew]
 clear hw5;refine hK.out _ _ (HKS.out _ HX5.out) (fun hHeld=> ?_);clear hK K;refine pt ?_;refine wpAnyH_done (by kernel_rfl) ?_ _;go_upto_region 15 with fail;refine wp_region_held_drew (S:=fun W=>W.cell? ⟨w.heap.size,1,none⟩=some (.slice (some ⟨kb,ko,none⟩) kz kc)/\W.cell? ⟨w.heap.size,2,none⟩=some (.slice (some ⟨vb,vo,none⟩) kz vc)) (by kernel_rfl) (HKS.out _ (by exact Xx (HX5.out))) (fun hHeld=> ?_);refine' tk 0 ?_;refine' tk 1 ?_;refine' tk 2 ?_;refine' tk 3 ?_;refine' tk 4 ?_;refine' tk 5 ?_;refine' tk 6 ?_;refine' tk 7 ?_;refine' tk 8 ?_;refine stp 9 (fun K hK=> ?_);go_simp
 skip
 refine hK.out _ _ (HKS.out _ (by exact Xx (HX5.out))) (fun hHeld=> ?_);clear hK K;refine pt ?_;refine stp 10 (fun K hK=> ?_);go_simp;generalize hw6:World.drew _=w6;have hx56:Ext w5 w6:=by rw[<-hw6];exact Xt
 have HX6:Hid (Ext w0 w6):=Ext.trans HX5.out hx56;have HR6:Hid (Row1 w6 (wc.heap.size+1) 166 [.bool true,.slice (some ⟨kb,ko+m,none⟩) (kz-m) (kc-m),.slice (some ⟨vb,vo+m,none⟩) (kz-m) (vc-m),.slice none 0 0]):=by unfold Hid;rw[<-hw6,<-hz5];exact(Row1.made w5 _ [.bool true,.slice (some ⟨kb,ko+m,none⟩) (kz-m) (kc-m),.slice (some ⟨vb,vo+m,none⟩) (kz-m) (vc-m),.slice none 0 0]).same rfl
 have HR56:Hid (Row1 w6 wc.heap.size 166 [.bool true,.slice (some ⟨kb,ko,none⟩) m kc,.slice (some ⟨vb,vo,none⟩) m vc,.slice none 0 0]):=HR5.out.ext hx56 HR5.out.lt;clear hw6;refine hK.out _ _ (HKS.out _ HX6.out) (fun hHeld=> ?_);clear hK K;refine pt ?_;refine wpAnyH_done (by kernel_rfl) ?_ _;have hmn:m<n.keys.length:=by rw[HK.out];omega
 have HMID:Hid (n.keys[m]? =some n.keys[m]):=aB hmn;obtain⟨mid,hmid⟩:∃mid,n.keys[m]=mid:=⟨_,rfl⟩;have HCM:=hD (HKC.out m hmn);rw[hmid]at HMID HCM;have HKS7:Hid (∀W,Only (fun j=>j=w.heap.size+1\/j=w.heap.size+1+1) w6 W->W.cell? ⟨kb,ko+m,none⟩=some (.string mid)/\(W.cell? ⟨wc.heap.size,0,none⟩=some (.bool true)/\W.cell? ⟨wc.heap.size,1,none⟩=some (.slice (some ⟨kb,ko,none⟩) m kc)/\W.cell? ⟨wc.heap.size,2,none⟩=some (.slice (some ⟨vb,vo,none⟩) m vc)/\W.cell? ⟨wc.heap.size,3,none⟩=some (.slice none 0 0))/\
   W.cell? ⟨wc.heap.size+1,0,none⟩=some (.bool true)/\W.cell? ⟨wc.heap.size+1,1,none⟩=some (.slice (some ⟨kb,ko+m,none⟩) (kz-m) (kc-m))/\W.cell? ⟨wc.heap.size+1,2,none⟩=some (.slice (some ⟨vb,vo+m,none⟩) (kz-m) (vc-m))/\W.cell? ⟨wc.heap.size+1,3,none⟩=some (.slice none 0 0)):=fun W hW=>by
  have hr1:=hW.row HR56.out (fun q=>by omega);have hr2:=hW.row HR6.out (fun q=>by omega);refine⟨?_,⟨hr1.cell 0,hr1.cell 1,hr1.cell 2,hr1.cell 3⟩,hr2.cell 0,hr2.cell 1,hr2.cell 2,hr2.cell 3⟩;have hkl:=HKB.out;have hz6:=HX6.out.size;exact(World.cell?_of_block (hW.block kb (by omega) (fun q=>by omega))).trans (((Ext.trans HX1.out HX6.out).cell (p:=⟨kb,ko+m,none⟩) hkl).trans HCM.out)
 have e1:(0:Int)<((kz-m:Nat):Int):=by omega
 have e2:0<kz-m:=by omega
 clear hmid;go_upto_region 16 with fail;refine wp_region_held_drew (S:=fun W=>W.cell? ⟨kb,ko+m,none⟩=some (.string mid)/\(W.cell? ⟨wc.heap.size,0,none⟩=some (.bool true)/\W.cell? ⟨wc.heap.size,1,none⟩=some (.slice (some ⟨kb,ko,none⟩) m kc)/\W.cell? ⟨wc.heap.size,2,none⟩=some (.slice (some ⟨vb,vo,none⟩) m vc)/\W.cell? ⟨wc.heap.size,3,none⟩=some (.slice none 0 0))/\W.cell? ⟨wc.heap.size+1,0,none⟩=some (.bool true)/\W.cell? ⟨wc.heap.size+1,1,none⟩=some (.slice (some ⟨kb,ko+m,none⟩) (kz-m) (kc-m))/\W.cell? ⟨wc.heap.size+1,2,none⟩=some (.slice (some ⟨vb,vo+m,none⟩) (kz-m) (vc-m))/\W.cell? ⟨wc.heap.size+1,3,none⟩=some (.slice none 0 0)) (by kernel_rfl) (HKS7.out _ (Only.of (by exact Xt))) (fun hHeld=> ?_);refine' tk 0 ?_;refine' tk 1 ?_;refine' tk 2 ?_;refine' tk 3 ?_;refine' tk 4 ?_;refine' tk 5 ?_;have hra:=HRa.out.ext HX6.out HRa.out.lt;have x0:=hra.cell 0;have x1:=hra.cell 1;have x2:=hra.cell 2;have x3:=hra.cell 3;have y0:=hra.soft 0;have y1:=hra.soft 1;have y2:=hra.soft 2;have y3:=hra.soft 3;have HA6:=hD hra;clear hra;refine stp 6 (fun K hK=> ?_);go_simp;generalize hw7:World.drew _=w7;have ho7:Only (fun j=>j=w.heap.size+1) w6 w7:=by rw[<-hw7];exact(X0l (w:=w6) (w.heap.size+1) _ _ _ _).ext (by exact Xt)
 have HO7:Hid (Only (fun j=>j=w.heap.size+1\/j=w.heap.size+1+1) w6 w7):=ho7.mono (fun j q=> .inl (.inl q));have HA7:Hid (Row1 w7 (w.heap.size+1) 166 [.bool true,.slice (some ⟨kb,ko,none⟩) m kc,.slice (some ⟨vb,vo,none⟩) m vc,.slice none 0 0]):=by unfold Hid;rw[<-hw7];exact((((HA6.out.set 0 (.bool true)).set 1 (.slice (some ⟨kb,ko,none⟩) m kc)).set 2 (.slice (some ⟨vb,vo,none⟩) m vc)).set 3 (.slice none 0 0)).same rfl
 have HB7:Hid (Row1 w7 (w.heap.size+1+1) 166 [.bool false,.slice none 0 0,.slice none 0 0,.slice none 0 0]):=ho7.row (HRb.out.ext HX6.out HRb.out.lt) (fun q=>by omega);clear hw7 ho7 x0 x1 x2 x3 y0 y1 y2 y3;refine hK.out _ _ (HKS7.out _ HO7.out) (fun hHeld=> ?_);clear hK K;refine pt ?_;have hrb:=HB7.out;have x0:=hrb.cell 0;have x1:=hrb.cell 1;have x2:=hrb.cell 2;have x3:=hrb.cell 3;have y0:=hrb.soft 0;have y1:=hrb.soft 1;have y2:=hrb.soft 2;have y3:=hrb.soft 3;clear hrb;refine stp 7 (fun K hK=> ?_);go_simp;generalize hw8:World.setCell _ _ _=w8;have ho8:Only (fun j=>j=w.heap.size+1+1) w7 w8:=by rw[<-hw8];exact X0l (w:=w7) (w.heap.size+1+1) _ _ _ _
 have HO8:Hid (Only (fun j=>j=w.heap.size+1\/j=w.heap.size+1+1) w6 w8):=HO7.out.trans' (ho8.mono (fun j q=> .inl (.inr q)));have HA8:Hid (Row1 w8 (w.heap.size+1) 166 [.bool true,.slice (some ⟨kb,ko,none⟩) m kc,.slice (some ⟨vb,vo,none⟩) m vc,.slice none 0 0]):=ho8.row HA7.out (fun q=>by omega);have HB8:Hid (Row1 w8 (w.heap.size+1+1) 166 [.bool true,.slice (some ⟨kb,ko+m,none⟩) (kz-m) (kc-m),.slice (some ⟨vb,vo+m,none⟩) (kz-m) (vc-m),.slice none 0 0]):=by unfold Hid;rw[<-hw8];exact((((HB7.out.set 0 (.bool true)).set 1 (.slice (some ⟨kb,ko+m,none⟩) (kz-m) (kc-m))).set 2 (.slice (some ⟨vb,vo+m,none⟩) (kz-m) (vc-m))).set 3 (.slice none 0 0))
 clear hw8 ho8 x0 x1 x2 x3 y0 y1 y2 y3;refine hK.out _ _ (HKS7.out _ HO8.out) (fun hHeld=> ?_);clear hK K;refine pt ?_;refine' tk 8 ?_;refine wpAnyH_done (by kernel_rfl) ?_ _;go_wp2_with fail;refine bodyPost_ret (X4j rfl _ _ (w.heap.size+1) (w.heap.size+1+1) _ _ _ _ _ _ _ _ (.string mid) rfl rfl rfl HA8.out HB8.out) rfl ?_;have HX8:Ext w w8:=Only.toExt (F:=fun j=>w.heap.size<=j) (((Only.of (Ext.trans HX1.out HX6.out)).trans' (HO8.out.mono (fun j q=> .inl (by omega))))) (fun _ q=>q);refine⟨m,_,_,_,_,_,_,_,_,_,_,_,_,_,_,_,_,_,_,mid,by rw[HL.out],hh.out,HMID.out,fun W hrd=> ?_,HX8⟩;exact⟨hrd.fstL HL.out m (by omega) (by omega),hrd.sndL HL.out m (by omega) (by omega)⟩
theorem V8d{n:NodeD}{kv vv cv:Value}(w:World)(h:NodeRd w n kv vv cv)(hn:NodeFit n)(hbig:256<Z0n n):
  cQ 196 #[.agg #[.bool n.leaf,kv,vv,cv]] w (Y3d n kv vv cv w):=by
 cases hl:n.leaf with
 | true=>have:=V3f w h hn hl hbig;rwa [hl]at this
 | false=>have:=X8c w h hn hl hbig;rwa [hl]at this
theorem U1m{t p i:Nat}{F G:Nat->Prop}{S:StoreD}(a r:Nat)(n:NodeD){kv vv cv:Value}(w:World)(ht:Z0b w t p i)(hnt:¬F t)(h:PagerAt w p F S)(hg:Z0s S a)(hf:Fm S)(hn:NodeFit n)(hbig:256<Z0n n)(hr:lowS S=some r)(hv:NodeAs w G n kv vv cv)(hFG:∀i,F i->¬G i):
  cQ 153 #[tp t,.int .i64 a,.agg #[.bool n.leaf,kv,vv,cv]] w fun e w'=>∃(m:Nat) (mid:ByteArray) (S':StoreD),e= .returned (.tuple #[.string mid,.int .i64 r,.int .i64 0])/\CutD S a n (some (m,r)) S'/\n.keys[m]? =some mid/\∃F',PagerAt w' p F' S'/\Keeps F F' w w':=by
 obtain⟨kA,kc,rfl⟩:=OwnL.form hv.keys;obtain⟨vA,vc,rfl⟩:=OwnL.form hv.vals;obtain⟨cA,cc,rfl⟩:=OwnL.form hv.kids;obtain⟨r1,r2,r3⟩:=Z4z hr;have hra:¬r=a:=fun e=>by subst e;rw[hg.2.2]at r3;cases r3
 have cZ:Hid (∀W,Ext w W->cQ 186 #[.agg #[.bool n.leaf,.slice kA n.keys.length kc,.slice vA n.vals.length vc,.slice cA n.kids.length cc]] W fun e w'=>e= .returned (.int .i64 (Z0n n))/\Ext W w'):=fun W hW=>Y7t W (hv.ext hW) hn.ok.fair;have cH:Hid (∀W,Ext w W->cQ 196 #[.agg #[.bool n.leaf,.slice kA n.keys.length kc,.slice vA n.vals.length vc,.slice cA n.kids.length cc]] W (Y3d n (.slice kA n.keys.length kc) (.slice vA n.vals.length vc) (.slice cA n.kids.length cc) W)):=fun W hW=>V8d W (hv.ext hW).rd hn hbig;have cAl:Hid (∀W,Ext w W->cQ 91 #[tp p] W fun e w'=>e= .returned (.tuple #[.int .i64 r,.int .i64 0])/\∃F',PagerAt w' p F' (Z1f S r)/\Keeps (fun i=>F i/\i<w.heap.size) F' W w'):=fun W hW=>Y1k r W (h.shrink.ext hW) hr;have HSL:Hid (∀m,HalfAt n m->Z0n (fst2 n m)<=256/\Z0n (snd2 n m)<=256/\NodeOk (fst2 n m)/\NodeOk (snd2 n m)):=fun m hm=>⟨(Z6a hn hm).1,(Z6a hn hm).2,Z5u hn.ok hm.lt,Y6j hn.ok hm.lt⟩;have hm9:=hf.most;have t1:=Z7b hf.full r1 (by omega:r<2048);have HG1:Hid (Z0s (Z1f S r) a):=t1.given hg (by simp);have HG2:Hid (∀m,HalfAt n m->Z0s (layP (Z1f S r) a (fst2 n m)) r):=fun m hm=>(Z5n t1.full hg.1 (Z5u hn.ok hm.lt) (Z6a hn hm).1).given (t1.givenF r1 r2 (by simp) (by simp)) (by simp);have HT:=hD ht;have HV:=hD hv;have HFG:=hD hFG;have HNT:Hid (¬(F t/\t<w.heap.size)):=fun q=>hnt q.1;have HBIG:=hD hbig;have HLOW:=hD hr;have T1:decide ((Z0n n:Int)<=256)=false:=aM;have HF1:Hid (∀m,(fst2 n m).leaf=n.leaf):=fun m=>by cases hl:n.leaf with
  | true=>rw[Z3h hl]
  | false=>rw[Z2c hl]
 have HF2:Hid (∀m,(snd2 n m).leaf=n.leaf):=fun m=>by cases hl:n.leaf with
  | true=>rw[Z9t hl]
  | false=>rw[Z5r hl]
 generalize hsz:Z0n n=sz at *;obtain⟨lf,hlf⟩:∃lf,n.leaf=lf:=⟨_,rfl⟩;obtain⟨kn,hkn⟩:∃kn,n.keys.length=kn:=⟨_,rfl⟩;obtain⟨vn,hvn⟩:∃vn,n.vals.length=vn:=⟨_,rfl⟩;obtain⟨cn,hcn⟩:∃cn,n.kids.length=cn:=⟨_,rfl⟩;have HSZ:=hD hsz;rw[hlf]at HF1 HF2;rw[hlf,hkn,hvn,hcn]at cZ cH ⊢;obtain⟨w0,hw0⟩:∃w0,w.alloc (.cells #[.bool lf,.slice kA kn kc,.slice vA vn vc,.slice cA cn cc] 166)=w0:=⟨_,rfl⟩;have hx0:Ext w w0:=hw0▸Ext.alloc _ _;have hr0:Row1 w0 w.heap.size 166 [.bool lf,.slice kA kn kc,.slice vA vn vc,.slice cA cn cc]:=hw0▸Row1.made w _ _;have c0:w0.cell? ⟨w.heap.size,0,none⟩=some (.bool lf):=hr0.cell 0;have c1:w0.cell? ⟨w.heap.size,1,none⟩=some (.slice kA kn kc):=hr0.cell 1;have c2:w0.cell? ⟨w.heap.size,2,none⟩=some (.slice vA vn vc):=hr0.cell 2;have c3:w0.cell? ⟨w.heap.size,3,none⟩=some (.slice cA cn cc):=hr0.cell 3;have HR:=hD hr0;have HX:=hD hx0;have HLF:=hD hlf;rw[hkn,hvn,hcn]at HV;clear ht hnt h hg hn hv hFG hlf hkn hvn hcn hr0 hx0 hf hbig hr r1 r2 r3 hm9 t1 hsz;go_enter Tryz.func153,Tryz.ntmps153;go_upto_region 4 with (first
  | (go_at_call 186;(with_reducible refine(cZ.out _ HX.out).mono ?_);clear cZ;rintro e w1 ⟨rfl,hx1⟩;have hr1:=HR.out.ext hx1 HR.out.lt;have d0:w1.cell? ⟨w.heap.size,0,none⟩=some (.bool lf):=hr1.cell 0;have d1:w1.cell? ⟨w.heap.size,1,none⟩=some (.slice kA kn kc):=hr1.cell 1;have d2:w1.cell? ⟨w.heap.size,2,none⟩=some (.slice vA vn vc):=hr1.cell 2;have d3:w1.cell? ⟨w.heap.size,3,none⟩=some (.slice cA cn cc):=hr1.cell 3;have HX1:=hD (Ext.trans HX.out hx1);clear hr1 hx1)
  | (go_at_call 196;(with_reducible refine(cH.out _ HX1.out).mono ?_);clear cH;rintro e w2 ⟨m,kA1,kn1,kc1,vA1,vn1,vc1,cA1,cn1,cc1,kA2,kn2,kc2,vA2,vn2,vc2,cA2,cn2,cc2,mid,rfl,hh,hmid,hn12,hx2⟩;rw[HLF.out];have HH:=hD hh;have HMID:=hD hmid;have HN12:=hD hn12;have HX2:=hD (Ext.trans HX1.out hx2);clear hh hmid hn12 hx2))
 generalize hw3:World.alloc _ _=w3;have hx3:Ext w2 w3:=by rw[<-hw3];exact Ext.trans (Ext.alloc _ _) (Ext.alloc _ _)
 have HX3:Hid (Ext w w3):=Ext.trans HX2.out hx3;have HRA:Hid (Row1 w3 w2.heap.size 166 [.bool lf,.slice kA1 kn1 kc1,.slice vA1 vn1 vc1,.slice cA1 cn1 cc1]):=by unfold Hid;rw[<-hw3];exact Row1.alloc (Row1.made w2 _ _) _
 have HRB:Hid (Row1 w3 (w2.heap.size+1) 166 [.bool lf,.slice kA2 kn2 kc2,.slice vA2 vn2 vc2,.slice cA2 cn2 cc2]):=by unfold Hid;rw[<-hw3];exact Row1.made' (by simp) _ _
 have hwl:w.heap.size<=w2.heap.size:=HX2.out.size;have HT3:Hid (Z0b w3 t p i):=HT.out.ext HX3.out HT.out.lt;have e0:w3.cell? ⟨t,0,none⟩=some (tp p):=HT3.out.cell 0;clear hw3 hx3;have hFw:∀F' W',Keeps (fun i=>F i/\i<w.heap.size) F' w3 W'->(Z0b W' t p i/\¬F' t)/\Row1 W' w2.heap.size 166 [.bool lf,.slice kA1 kn1 kc1,.slice vA1 vn1 vc1,.slice cA1 cn1 cc1]/\Row1 W' (w2.heap.size+1) 166 [.bool lf,.slice kA2 kn2 kc2,.slice vA2 vn2 vc2,.slice cA2 cn2 cc2]/\NodeAs W' G n (.slice kA kn kc) (.slice vA vn vc) (.slice cA cn cc):=fun F' W' hk=>
  ⟨⟨hk.only.row HT3.out HNT.out,hk.out HT3.out.lt HNT.out⟩,hk.only.row HRA.out (fun q=>by have:=q.2;omega),hk.only.row HRB.out (fun q=>by have:=q.2;omega),(HV.out.ext HX3.out).only hk.only (fun i q q'=>HFG.out i q'.1 q)⟩
 have HFW:=hD hFw;clear hFw;go_wp2_with (first
  | (go_at_call 91;(with_reducible refine(cAl.out _ HX3.out).mono ?_);clear cAl;rintro e w4 ⟨rfl,F4,hp4,hk4⟩
     obtain⟨⟨q1,q2⟩,q3,q4,q5⟩:=HFW.out _ _ hk4;have cL:=V2h a (fst2 n m) w4 q1 q2 hp4 HG1.out (HSL.out m HH.out).2.2.1 (HSL.out m HH.out).1 (HN12.out w4 q5.rd).1;rw[HF1.out]at cL;have x0:w4.cell? ⟨w2.heap.size,0,none⟩=some (.bool lf):=q3.cell 0;have x1:w4.cell? ⟨w2.heap.size,1,none⟩=some (.slice kA1 kn1 kc1):=q3.cell 1;have x2:w4.cell? ⟨w2.heap.size,2,none⟩=some (.slice vA1 vn1 vc1):=q3.cell 2;have x3:w4.cell? ⟨w2.heap.size,3,none⟩=some (.slice cA1 cn1 cc1):=q3.cell 3;have HK4:=hD hk4;clear hp4 hk4 q1 q2 q3 q4 q5)
  | (go_at_call 92;(with_reducible refine cL.mono ?_);clear cL;rintro e w5 ⟨rfl,F5,hp5,hk5⟩
     have hk35:=Keeps.trans HK4.out hk5;obtain⟨⟨q1,q2⟩,q3,q4,q5⟩:=HFW.out _ _ hk35;have cM:=V2h r (snd2 n m) w5 q1 q2 hp5 (HG2.out m HH.out) (HSL.out m HH.out).2.2.2 (HSL.out m HH.out).2.1 (HN12.out w5 q5.rd).2;rw[HF2.out]at cM;have y0:w5.cell? ⟨w2.heap.size+1,0,none⟩=some (.bool lf):=q4.cell 0;have y1:w5.cell? ⟨w2.heap.size+1,1,none⟩=some (.slice kA2 kn2 kc2):=q4.cell 1;have y2:w5.cell? ⟨w2.heap.size+1,2,none⟩=some (.slice vA2 vn2 vc2):=q4.cell 2;have y3:w5.cell? ⟨w2.heap.size+1,3,none⟩=some (.slice cA2 cn2 cc2):=q4.cell 3;have HK5:=hD hk35;clear hp5 hk5 hk35 q1 q2 q3 q4 q5)
  | (go_at_call 92;(with_reducible refine cM.mono ?_);clear cM;rintro e w6 ⟨rfl,F6,hp6,hk6⟩
     have HP6:=hD hp6;have HK6:=hD (Keeps.trans HK5.out hk6);clear hp6 hk6))
 go_ret3
 refine⟨m,mid,_,rfl,⟨by rw[HSZ.out];exact HBIG.out,HH.out,HLOW.out,rfl⟩,HMID.out,F6,HP6.out,Keeps.widen (Keeps.trans (Keeps.of HX3.out) HK6.out) (fun i q=>q.1)⟩
def CutQ(S:StoreD)(a:Nat)(n:NodeD)(mid:ByteArray)(right:Nat)(S':StoreD):Prop:=
 (CutD S a n none S'/\mid=⟨#[]⟩/\right=0)\/∃m,CutD S a n (some (m,right)) S'/\n.keys[m]? =some mid
theorem V4l{t p i:Nat}{S:StoreD}(a:Nat)(n:NodeD)(hg:Z0s S a)(hf:Fm S)(hn:NodeFit n)(hr:0<Z0z S):X6e t p i a S n (CutQ S a n):=fun W F G kv vv cv ht hnt h hv hFG=>by
 by_cases hs:Z0n n<=256
 ·refine(V8x a n W ht hnt h hg hn.ok hn.ok.fair hs hv).mono ?_;rintro e w' ⟨rfl,h⟩;exact⟨_,0,_,rfl,.inl ⟨⟨hs,rfl⟩,rfl,rfl⟩,h⟩
 ·obtain⟨r,hlow⟩:=Y8i hf hr;refine(U1m a r n W ht hnt h hg hf hn (by omega) hlow hv hFG).mono ?_;rintro e w' ⟨m,mid,S',rfl,h1,h2,h3⟩;exact⟨mid,r,S',rfl,.inr ⟨m,h1,h2⟩,h3⟩
def midO(d:Nat)(o:Option (ByteArray×TT d)):ByteArray:=match o with | none=>⟨#[]⟩ | some x=>x.1
def Y3q(d:Nat)(o:Option (ByteArray×TT d)):Nat:=match o with | none=>0 | some x=>atT d x.2
def Z9l(d p:Nat)(F:Nat->Prop)(S:StoreD)(t:TT d)(k v:ByteArray)(w:World)(e:Ending)(w':World):Prop:=
 ∃(S':StoreD) (t':TT d) (o:Option (ByteArray×TT d)),e= .returned (.tuple #[.string (midO d o),.int .i64 (Y3q d o),.int .i64 0])/\PutR d S t k v S' t' o/\∃F',PagerAt w' p F' S'/\Keeps F F' w w'
theorem V6g{tr p i:Nat}{F:Nat->Prop}{S:StoreD}(D:Nat)(t:TT 0)(k v:ByteArray)(w:World)(ht:Z0b w tr p i)(hnt:¬F tr)(h:PagerAt w p F S)(hf:Fm S)(hon:onT S 0 t)(hok:okT 0 t)(hk:Z2o k)(hv:v.size<=80)(hr:1<=Z0z S)(hd:0<D):
  cQ 94 #[tp tr,.int .i64 (LeafT.at_ t),.int .i64 D,.string k,.string v] w (Z9l 0 p F S t k v w):=by
 have hfit:=X0f hon hok hk hv;have hfit':NodeFit (putN (Z0c 0 t) k v):=Eq.mp (congrArg NodeFit (Z5s t k v)) hfit;have hcut:=V4l (t:=tr) (p:=p) (i:=i) (LeafT.at_ t) (putN (Z0c 0 t) k v) (PageN.given hon) hf hfit' hr;have fin:∀e w',(∃(mid:ByteArray) (right:Nat) (S':StoreD),e= .returned (.tuple #[.string mid,.int .i64 right,.int .i64 0])/\CutQ S (LeafT.at_ t) (putN (Z0c 0 t) k v) mid right S'/\∃F',PagerAt w' p F' S'/\Keeps F F' w w')->Z9l 0 p F S t k v w e w':=by
  rintro e w' ⟨mid,right,S',rfl,hc,hp⟩;rcases hc with ⟨hc,rfl,rfl⟩ | ⟨m,hc,hm⟩
  ·exact⟨S',Z6s t k v,none,rfl,⟨none,Eq.mpr (congrArg (fun n=>CutD S (LeafT.at_ t) n none S') (Z5s t k v)) hc,rfl,rfl⟩,hp⟩
  ·refine⟨S',LeafT.mk (LeafT.at_ t) ((Z6s t k v).keys.take m) ((Z6s t k v).vals.take m),some (mid,LeafT.mk right ((Z6s t k v).keys.drop m) ((Z6s t k v).vals.drop m)),rfl,⟨some (m,right),Eq.mpr (congrArg (fun n=>CutD S (LeafT.at_ t) n (some (m,right)) S') (Z5s t k v)) hc,mid,hm,rfl,rfl⟩,hp⟩
 cases hh:hasB (Z0c 0 t).keys k with
 | true=>exact(X0b (LeafT.at_ t) D k v (Z0c 0 t) w ht hnt h hon rfl hok.1 hd hh hcut).mono fin
 | false=>exact(X0a (LeafT.at_ t) D k v (Z0c 0 t) w ht hnt h hon rfl hok.1 hd hh hcut).mono fin
theorem NodeAs.shrink'{w W:World}{F F':Nat->Prop}{n:NodeD}{kv vv cv:Value}(h:NodeAs w F n kv vv cv)(hF:∀i,F i->i<W.heap.size->F' i)(k:NodeAs W F n kv vv cv):NodeAs w F' n kv vv cv:=
 ⟨h.keys,h.vals,h.kids,h.sep,fun b q=>hF b (h.fk b q) (k.keys.lt b q).2,fun b q=>hF b (h.fv b q) (k.vals.lt b q).2,fun b q=>hF b (h.fc b q) (k.kids.lt b q).2⟩
structure BoxG (w1 W:World) (G:Nat->Prop) (D:Nat) (n:NodeD) (kv vv cv:Value):Prop where
 own:NodeAs W G n kv vv cv
 row:Row1 W D 166 [.bool n.leaf,kv,vv,cv]
 only:Only G w1 W
 bd:G D
 up:∀j,w1.heap.size<=j->G j
section
variable {w1 W w3:World} {G:Nat->Prop} {D:Nat} {n:NodeD} {kv vv cv:Value}
theorem BoxG.ext(h:BoxG w1 W G D n kv vv cv)(hb:Ext W w3):BoxG w1 w3 G D n kv vv cv:=⟨h.own.ext hb,h.row.ext hb h.row.lt,h.only.ext hb,h.bd,h.up⟩
theorem BoxG.made(h:NodeAs w1 G n kv vv cv)(hu:∀j,w1.heap.size<=j->G j):BoxG w1 (w1.alloc (.cells #[.bool n.leaf,kv,vv,cv] 166)) G w1.heap.size n kv vv cv:=
 ⟨h.ext (Ext.alloc _ _),Row1.made w1 _ _,Only.of (Ext.alloc _ _),hu _ (aF _),hu⟩
theorem BoxG.rowK(h:BoxG w1 W G D n kv vv cv)(hx:Only (fun j=>kv.ownBlock=some j) W w3):Row1 w3 D 166 [.bool n.leaf,kv,vv,cv]:=hx.row h.row (h.own.keys.apartRow h.row (by decide))
theorem BoxG.rowC(h:BoxG w1 W G D n kv vv cv)(hx:Only (fun j=>cv.ownBlock=some j) W w3):Row1 w3 D 166 [.bool n.leaf,kv,vv,cv]:=hx.row h.row (h.own.kids.apartRow h.row (by decide))
theorem BoxG.new(h:BoxG w1 W G D n kv vv cv){b:Nat}(hb:W.heap.size<=b):G b:=h.up b (Nat.le_trans h.only.size hb)
theorem BoxG.setK(h:BoxG w1 W G D n kv vv cv){kv':Value}{K':List ByteArray}(hown:OwnL w3 0 9 1 encS kv' K')(hwh:∀b,kv'.ownBlock=some b->kv.ownBlock=some b\/W.heap.size<=b)(hx:Only (fun j=>kv.ownBlock=some j) W w3):
  BoxG w1 (w3.setCell ⟨D,1,none⟩ kv') G D { n with keys:=K'} kv' vv cv:=by
 have ho:=Y5o w3 D 1 kv';have hr3:=h.rowK hx;have hv3:=h.own.vals.only hx (fun k q q'=>h.own.sep k q' q);have hc3:=h.own.kids.only hx (fun k q q'=>h.own.kids.apart h.own.keys (by decide) q q');have hF:∀b,kv'.ownBlock=some b->G b:=fun b q=>(hwh b q).elim (h.own.fk b) h.new;refine⟨⟨hown.only ho (fun k q q'=>hown.apartRow hr3 (by decide) (by rw[q,q'])),hv3.only ho (fun k q q'=>hv3.apartRow hr3 (by decide) (by rw[q,q'])),hc3.only ho (fun k q q'=>hc3.apartRow hr3 (by decide) (by rw[q,q'])),fun b q q'=> ?_,hF,h.own.fv,h.own.fc⟩,hr3.set 1 kv',?_,h.bd,h.up⟩
 ·rcases hwh b q with r | r
  ·exact h.own.sep b r q'
  ·have:=(h.own.vals.lt b q').2;omega
 ·exact(h.only.trans' (hx.mono (fun i q=> .inl (h.own.fk i q)))).trans' (ho.mono (fun i q=> .inl (by rw[q];exact h.bd)))
theorem BoxG.setC(h:BoxG w1 W G D n kv vv cv){cv':Value}{C':List Int}(hown:OwnL w3 0 3 1 encN cv' C')(hwh:∀b,cv'.ownBlock=some b->cv.ownBlock=some b\/W.heap.size<=b)(hx:Only (fun j=>cv.ownBlock=some j) W w3):
  BoxG w1 (w3.setCell ⟨D,3,none⟩ cv') G D { n with kids:=C'} kv vv cv':=by
 have ho:=Y5o w3 D 3 cv';have hr3:=h.rowC hx;have hk3:=h.own.keys.only hx (fun k q q'=>h.own.keys.apart h.own.kids (by decide) q q');have hv3:=h.own.vals.only hx (fun k q q'=>h.own.vals.apart h.own.kids (by decide) q q');have hF:∀b,cv'.ownBlock=some b->G b:=fun b q=>(hwh b q).elim (h.own.fc b) h.new;refine⟨⟨hk3.only ho (fun k q q'=>hk3.apartRow hr3 (by decide) (by rw[q,q'])),hv3.only ho (fun k q q'=>hv3.apartRow hr3 (by decide) (by rw[q,q'])),hown.only ho (fun k q q'=>hown.apartRow hr3 (by decide) (by rw[q,q'])),h.own.sep,h.own.fk,h.own.fv,hF⟩,hr3.set 3 cv',?_,h.bd,h.up⟩;exact(h.only.trans' (hx.mono (fun i q=> .inl (h.own.fc i q)))).trans' (ho.mono (fun i q=> .inl (by rw[q];exact h.bd)))
theorem BoxG.call{F F':Nat->Prop}(h:BoxG w1 W G D n kv vv cv)(hk:Keeps F F' W w3)(hF:∀i,F i->¬G i):
  BoxG w3 w3 (fun j=>(G j/\j<W.heap.size)\/w3.heap.size<=j) D n kv vv cv/\∀j,F' j->j<w3.heap.size->¬((G j/\j<W.heap.size)\/w3.heap.size<=j):=by
 refine⟨⟨(h.own.only hk.only (fun i q q'=>hF i q' q)).shrink' (fun i q1 q2=> ?_) h.own,hk.only.row h.row (fun q=>hF _ q h.bd),Only.refl,.inl ⟨h.bd,h.row.lt⟩,fun j q=> .inr q⟩,fun j q1 q2 q3=> ?_⟩
 ·exact .inl ⟨q1,q2⟩
 ·rcases hk.new j q1 with r | r
  ·rcases q3 with q3 | q3
   ·exact hF j r q3.1
   ·omega
  ·omega
end
theorem V7g{α β:Type}(f:α->β)(l:List α)(i:Nat)(x:α):(insL l i x).map f=insL (l.map f) i (f x):=by unfold insL;rw[List.map_append,List.map_cons,List.map_take,List.map_drop]
theorem V7b{d:Nat}{t:TT (d+1)}{j:Nat}{c c' r:TT d}{mid:ByteArray}(hc:(InT.kids t)[j]? =some c)(ha:atT d c'=atT d c):
  NodeD.mk (Z0c (d+1) t).leaf (insL (Z0c (d+1) t).keys j mid) (Z0c (d+1) t).vals (insL (Z0c (d+1) t).kids (j+1) (atT d r:Int))=Z0c (d+1) (InT.mk (InT.at_ t) (insL (InT.keys t) j mid) (insL ((InT.kids t).set j c') (j+1) r)):=by
 show NodeD.mk false _ [] _=NodeD.mk false _ [] _
 congr 1
 rw[V7g,Z5v hc ha];rfl
theorem U2d{d:Nat}{S S1 S':StoreD}{L:TT (d+1)}{mid:ByteArray}{right:Nat}(h:CutQ S1 (InT.at_ L) (Z0c (d+1) L) mid right S'):∃t' o,V5a d S1 L S' t' o/\midO (d+1) o=mid/\Y3q (d+1) o=right:=by
 rcases h with ⟨h,rfl,rfl⟩ | ⟨m,h,hm⟩
 ·exact⟨L,none,⟨none,h,rfl,rfl⟩,rfl,rfl⟩
 ·exact⟨InT.mk (InT.at_ L) ((InT.keys L).take m) ((InT.kids L).take (m+1)),some (mid,InT.mk right ((InT.keys L).drop (m+1)) ((InT.kids L).drop (m+1))),⟨some (m,right),h,mid,hm,rfl,rfl⟩,rfl,rfl⟩
theorem V0v{tr p i d:Nat}{F:Nat->Prop}{S:StoreD}(D:Nat)(t:TT (d+1))(k v:ByteArray)(w:World)(ht:Z0b w tr p i)(hnt:¬F tr)(h:PagerAt w p F S)(hf:Fm S)(hon:onT S (d+1) t)(hok:okT (d+1) t)(hk:Z2o k)(hv:v.size<=80)(hr:d+2<=Z0z S)(hnd:(Z0a (d+1) t).Nodup)(jH:D<=1000)
 (hIH:∀(F:Nat->Prop) (w:World) (c:TT d),c∈InT.kids t->Z0b w tr p i->¬F tr->PagerAt w p F S->cQ 94 #[tp tr,.int .i64 (atT d c),.int .i64 D,.string k,.string v] w (Z9l d p F S c k v w)):
  cQ 94 #[tp tr,.int .i64 (InT.at_ t),.int .i64 ((D+1:Nat):Int),.string k,.string v] w (Z9l (d+1) p F S t k v w):=by
 have hkeys:(Z0c (d+1) t).keys=InT.keys t:=rfl;have hpg:=Z3z (d+1) t hon;have cL:=Z1m (InT.at_ t) (Z0c (d+1) t) w ht h hpg;have hkl:(InT.kids t).length=(InT.keys t).length+1:=hok.2.1;have hj:Z0h (InT.keys t) k<(InT.kids t).length:=by have:=Z4o (k:=k) hok.1;omega
 have hmany:=hpg.ok.many;rw[hkeys]at hmany;obtain⟨c,hc⟩:∃c,(InT.kids t)[Z0h (InT.keys t) k]? =some c:=⟨_,aB hj⟩;have hcm:c∈InT.kids t:=List.mem_of_getElem? hc;have HKID:Hid ((Z0c (d+1) t).kids[Z0h (InT.keys t) k]?.getD 0=(atT d c:Int)):=by unfold Hid;show(((InT.kids t).map fun c=>(atT d c:Int))[Z0h (InT.keys t) k]?).getD 0=_;rw[List.getElem?_map,hc];rfl
 have HKL:Hid (Z0h (InT.keys t) k<(Z0c (d+1) t).kids.length):=by unfold Hid;show _<((InT.kids t).map _).length;rw[List.length_map];exact hj
 have HDK:Hid (Z0h (InT.keys t) k<=(Z0c (d+1) t).keys.length):=Z4o hok.1;have HCL:Hid ((Z0c (d+1) t).kids.length=(Z0c (d+1) t).keys.length+1):=by unfold Hid;show((InT.kids t).map _).length=_;rw[List.length_map];exact hkl
 have HMANY:Hid ((Z0c (d+1) t).keys.length<=255):=hmany;have HDN:Hid (∀W kv vv cv G,NodeAs W G (Z0c (d+1) t) kv vv cv->cQ 137 #[.agg #[.bool false,kv,vv,cv],.string k] W fun e w'=>e= .returned (.int .i64 (Z0h (InT.keys t) k))/\Ext W w'):=fun W kv vv cv G q=>Y3a k W q hok.1 (by rw[hkeys];omega);have HLAW:Hid (∀S1 c' o,PutR d S c k v S1 c' o->∃F1,PutL d S c k v S1 c' o F1):=fun S1 c' o q=>Z5i d q hf (hon.2 c hcm) (hok.2.2.2.1 c hcm) hk hv ((Z1c hnd).1 c hcm).2;have HNONE:Hid (∀S1 c',PutR d S c k v S1 c' none->PutR (d+1) S t k v S1 (InT.mk (InT.at_ t) (InT.keys t) ((InT.kids t).set (Z0h (InT.keys t) k) c')) none):=fun S1 c' q=>⟨c,hc,S1,c',none,q,rfl,rfl,rfl⟩;have HSOME:Hid (∀S1 c' mid r,PutR d S c k v S1 c' (some (mid,r))->∃L:TT (d+1),2<=atT d r/\InT.at_ L=InT.at_ t/\NodeD.mk (Z0c (d+1) t).leaf (insL (Z0c (d+1) t).keys (Z0h (InT.keys t) k) mid) (Z0c (d+1) t).vals (insL (Z0c (d+1) t).kids (Z0h (InT.keys t) k+1) (atT d r:Int))=Z0c (d+1) L/\X6e tr p i (InT.at_ t) S1 (Z0c (d+1) L) (CutQ S1 (InT.at_ t) (Z0c (d+1) L))/\
   ∀mid' right' S',CutQ S1 (InT.at_ t) (Z0c (d+1) L) mid' right' S'->∃t' o,PutR (d+1) S t k v S' t' o/\midO (d+1) o=mid'/\Y3q (d+1) o=right'):=fun S1 c' mid r q=>by
  obtain⟨F1,hl⟩:=HLAW.out S1 c' _ q;obtain⟨L,hL,g1,g2,g3,g4,g5,g6,g7,g8,g9⟩:=Y9k hf hon hok hk hnd hc hl;have hLa:InT.at_ L=InT.at_ t:=by rw[hL]
  have hf1:=hf.stp hl.stp (fun b q=>by cases q);have hroom:=X4f hl.stp hl.nd (fun b hb=>⟨(hl.fresh b hb).1,(hl.fresh b hb).2.2⟩);have hlen:=hl.len;refine⟨L,(Z0l d r (hl.right mid r rfl).on _ (Z0r d r)).1,hLa,?_,?_,fun mid' right' S' hq=> ?_⟩
  ·rw[hL];exact V7b hc hl.at_
  ·have:=V4l (t:=tr) (p:=p) (i:=i) (InT.at_ L) (Z0c (d+1) L) g1 hf1 g3 (by omega);rw[hLa]at this;exact this
  ·rw[<-hLa]at hq;obtain⟨t',o,r1,r2,r3⟩:=U2d (S:=S) hq;refine⟨t',o,⟨c,hc,S1,c',some (mid,r),q,?_⟩,r2,r3⟩;show V5a d S1 (InT.mk (InT.at_ t) (insL (InT.keys t) (Z0h (InT.keys t) k) mid) (insL ((InT.kids t).set (Z0h (InT.keys t) k) c') (Z0h (InT.keys t) k+1) r)) S' t' o;rw[<-hL];exact r1
 have HIH:Hid (∀(F:Nat->Prop) (w:World),Z0b w tr p i->¬F tr->PagerAt w p F S->cQ 94 #[tp tr,.int .i64 (atT d c),.int .i64 D,.string k,.string v] w (Z9l d p F S c k v w)):=fun F w q1 q2 q3=>hIH F w c hcm q1 q2 q3;have HT:=hD ht;have HNT:=hD hnt;have hlt:=ht.lt;have hleaf:(Z0c (d+1) t).leaf=false:=rfl;have HLF:=hD hleaf;rw[hleaf]at cL;generalize hnode:Z0c (d+1) t=n at *;generalize hpos:Z0h (InT.keys t) k=j at *;generalize hata:InT.at_ t=a at *;generalize hatc:atT d c=ac at *;obtain⟨dv,hdv⟩:∃dv:Nat,D+1=dv:=⟨_,rfl⟩;rw[hdv];have T0:decide ((dv:Int)=0)=false:=aM;have T1:(dv:Int)-1=(D:Int):=by omega
 have T2:dv<=1001:=by omega
 have T3:((dv:Int)==0)=false:=by simp;omega
 have T4:0<dv:=by omega
 have HT1:=hD T1;clear ht hnt h hf hon hok hk hv hr hnd hIH hkeys hpg hkl hj hmany hc hcm hleaf hnode hpos hata hatc hdv HLAW jH T1;go_enter Tryz.func94,Tryz.ntmps94;go_upto_region 14 with (first
  | (go_at_call 82;(with_reducible refine cL.mono ?_);clear cL;rintro e w1 ⟨kA,kn,kc,vA,vn,vc,cA,cn,cc,B,F1,rfl,hn1,hp1,hk1,hB,hF1,hBW⟩
     have cD:=HDN.out (w1.alloc (.cells #[.bool false,.slice kA kn kc,.slice vA vn vc,.slice cA cn cc] 166)) _ _ _ _ (hn1.ext (Ext.alloc _ _));have HR1:Hid (Z0b w1 tr p i):=hD (hk1.only.row HT.out HNT.out);have HNT1:Hid (¬F1 tr):=hk1.out hlt HNT.out;have HTB:Hid (¬B<=tr):=by have h8:=aE hlt hB;intro e;omega
     have hb1:BoxG w1 (w1.alloc (.cells #[.bool false,.slice kA kn kc,.slice vA vn vc,.slice cA cn cc] 166)) (fun j=>B<=j) w1.heap.size n (.slice kA kn kc) (.slice vA vn vc) (.slice cA cn cc):=by have q:=BoxG.made hn1 (fun j q=>Nat.le_trans hBW q);rw[HLF.out]at q;exact q
     have HB1:=hD hb1;have d0:(w1.alloc (.cells #[.bool false,.slice kA kn kc,.slice vA vn vc,.slice cA cn cc] 166)).cell? ⟨w1.heap.size,0,none⟩=some (.bool false):=(Row1.made w1 _ [.bool false,.slice kA kn kc,.slice vA vn vc,.slice cA cn cc]).cell 0;have HP1:=hD hp1;have HK1:=hD hk1;have HB:=hD hB;have HF1:=hD hF1;clear hn1 hp1 hk1 hB hF1 hBW hb1)
  | (go_at_call 137;(with_reducible refine cD.mono ?_);clear cD;rintro e w2 ⟨rfl,hb2⟩
     have HB2:=hD (HB1.out.ext hb2);have HX2:Hid (Ext w1 w2):=Ext.trans (Ext.alloc _ _) hb2;clear hb2 d0))
 obtain⟨g,c9,hcv,hg,hgc⟩:=Z6p HB2.out.own.kids j HKL.out;rw[HKID.out]at hgc;injection hcv with e1 e2 e3;subst e1 e2 e3;have q4:j<n.kids.length:=HKL.out;have q5:(j:Int)<(n.kids.length:Int):=by omega
 have x3:w2.cell? ⟨w1.heap.size,3,none⟩=some (.slice (some ⟨g,0,none⟩) n.kids.length cc):=HB2.out.row.cell 3;have cP:=HIH.out F1 w2 (HR1.out.ext HX2.out HR1.out.lt) HNT1.out (HP1.out.ext HX2.out);rw[<-HT1.out]at cP;have HG:=hD hg;clear hg;go_upto_region 15 with (first
  | (go_at_call 94;(with_reducible refine cP.mono ?_);clear cP;rintro e w3 ⟨S1,c',o,rfl,hput,F3,hp3,hk3⟩
     have HPUT:=hD hput;have hcall:=HB2.out.call hk3 (fun i q q'=>by have h8:=HF1.out i q;have h9:B<=i:=q';omega);have HB3:=hD hcall.1;have HF3:=hD hcall.2;have hk2:Keeps F F1 w w2:=HK1.out.ext HX2.out;have HK3:Hid (Keeps F F3 w w3):=Keeps.trans hk2 hk3;have HP3:=hD hp3.shrink;have HS23:=hD hk3.only.size;have HTG:Hid (¬((B<=tr/\tr<w2.heap.size)\/w3.heap.size<=tr)):=fun q=>by have h8:=HTB.out;have h9:=HS23.out;have h7:=HX2.out.size;have h6:=HR1.out.lt;omega
     have HR3:Hid (Z0b w3 tr p i):=hk3.only.row (HR1.out.ext HX2.out HR1.out.lt) HNT1.out;have HNT3:Hid (¬F3 tr):=hk3.out (aE HR1.out.lt HX2.out.size) HNT1.out;clear hput hp3 hk3 hk2 x3 hgc hcall))
 cases o with
 | none=>
   have m0:midO d (none:Option (ByteArray×TT d))=⟨#[]⟩:=rfl;have r0:Y3q d (none:Option (ByteArray×TT d))=0:=rfl;rw[m0,r0];go_wp2_with fail
   go_ret3
   exact⟨S1,_,none,rfl,HNONE.out _ _ HPUT.out,F3,(show PagerAt w3 p F3 S1 from HP3.out.mono (fun i q=>q.1)),HK3.out⟩
 | some x=>
   obtain⟨mid,r⟩:=x;have m0:midO d (some (mid,r))=mid:=rfl;have r0:Y3q d (some (mid,r))=atT d r:=rfl;rw[m0,r0];obtain⟨L,hr2,hLa,hnode,hcuts,hfin⟩:=HSOME.out _ _ _ _ HPUT.out;obtain⟨ar,har⟩:∃ar,atT d r=ar:=⟨_,rfl⟩;rw[har]at hr2 hnode ⊢;have T5:((ar:Int)==0)=false:=by simp;omega
   have T6:decide ((ar:Int)=0)=false:=aM;have HNODE:=hD hnode;have HCUTS:=hD hcuts;have HFIN:=hD hfin;have x1:w3.cell? ⟨w1.heap.size,1,none⟩=some (.slice kA kn kc):=HB3.out.row.cell 1;have q6:(j:Int)+1=((j+1:Nat):Int):=by omega
   have HQ6:=hD q6;have hjb:j<=255:=by have:=HDK.out;have:=HMANY.out;omega
   have cI:=Y8m mid w3.heap.size j (w3.alloc (.cells #[.string mid] 9)) (HB3.out.own.keys.alloc _) HDK.out (Row1.made w3 _ [.string mid]) (fun q=>by have:=(HB3.out.own.keys.lt _ q).2;omega) (by have:=HMANY.out;omega);have HB3a:=hD (HB3.out.ext (Ext.alloc w3 (.cells #[.string mid] 9)));clear hLa hnode hcuts hfin har m0 r0 q6;go_wp2_with (first
    | (go_at_call 152;(with_reducible refine cI.mono ?_);clear cI;rintro e w4 ⟨kv',rfl,h1,h2,h3⟩
       obtain⟨kA',kn',kc',rfl⟩:∃kA kn kc,kv'= .slice kA kn kc:=let ⟨A,c,q⟩:=OwnL.form h1;⟨A,_,c,q⟩;have hb4:=HB3a.out.setK h1 h2 h3;have hr4:=HB3a.out.rowK h3;have e1:w4.cell? ⟨w1.heap.size,1,none⟩=some (.slice kA kn kc):=hr4.cell 1;have e2:w4.cell? ⟨w1.heap.size,3,none⟩=some (.slice (some ⟨g,0,none⟩) n.kids.length cc):=hr4.cell 3;have e3:w4.frozen? ⟨w1.heap.size,1,none⟩=false:=hr4.soft 1;have cJ:=V7w (ar:Int) (w4.setCell ⟨w1.heap.size,1,none⟩ (.slice kA' kn' kc')).heap.size (j+1) ((w4.setCell ⟨w1.heap.size,1,none⟩ (.slice kA' kn' kc')).alloc (.cells #[.int .i64 ar] 3)) (hb4.own.kids.alloc _) (by show j+1<=n.kids.length;omega) (Row1.made _ _ [.int .i64 ar]) (fun q=>by have:=(hb4.own.kids.lt _ q).2;omega) (by show n.kids.length<=100000;have:=HMANY.out;have:=HCL.out;omega);rw[Z1z,<-HQ6.out]at cJ;have HB4:=hD (hb4.ext (Ext.alloc _ (.cells #[.int .i64 ar] 3)));clear hb4 hr4 h1 h2 h3)
    | (go_at_call 154;(with_reducible refine cJ.mono ?_);clear cJ;rintro e w7 ⟨cv',rfl,h1,h2,h3⟩
       obtain⟨cA',cn',cc',rfl⟩:∃kA kn kc,cv'= .slice kA kn kc:=let ⟨A,c,q⟩:=OwnL.form h1;⟨A,_,c,q⟩;have hb7:=HB4.out.setC h1 h2 h3;have hr7:=HB4.out.rowC h3;have g0:w7.cell? ⟨w1.heap.size,0,none⟩=some (.bool false):=by rw[hr7.cell];show some (Value.bool n.leaf)=_;rw[HLF.out]
       have g1:w7.cell? ⟨w1.heap.size,1,none⟩=some (.slice kA' kn' kc'):=hr7.cell 1;have g2:w7.cell? ⟨w1.heap.size,2,none⟩=some (.slice vA vn vc):=hr7.cell 2;have g3:w7.cell? ⟨w1.heap.size,3,none⟩=some (.slice (some ⟨g,0,none⟩) n.kids.length cc):=hr7.cell 3;have g4:w7.frozen? ⟨w1.heap.size,3,none⟩=false:=hr7.soft 3;have hown:NodeAs (w7.setCell ⟨w1.heap.size,3,none⟩ (.slice cA' cn' cc')) (fun j=>(B<=j/\j<w2.heap.size)\/w3.heap.size<=j) (NodeD.mk n.leaf (insL n.keys j mid) n.vals (insL n.kids (j+1) (ar:Int))) (.slice kA' kn' kc') (.slice vA vn vc) (.slice cA' cn' cc'):=hb7.own;rw[HNODE.out]at hown;have cC:=HCUTS.out (w7.setCell ⟨w1.heap.size,3,none⟩ (.slice cA' cn' cc')) (fun i=>F3 i/\i<w3.heap.size) _ _ _ _ (hb7.only.row HR3.out HTG.out) (fun q=>HNT3.out q.1) (HP3.out.only hb7.only (fun j q q'=>HF3.out j q.1 q.2 q')) hown (fun j q q'=>HF3.out j q.1 q.2 q');rw[show (Z0c (d+1) L).leaf=false from rfl]at cC;have HB7:=hD hb7.only;clear hb7 hr7 h1 h2 h3 hown)
    | (go_at_call 153;(with_reducible refine cC.mono ?_);clear cC;rintro e w8 ⟨mid',right',S4,rfl,hcr,F4,hp4,hk4⟩;have HCR:=hD hcr;have HP4:=hD hp4;have HK4:=hD hk4;clear hcr hp4 hk4))
   go_ret3
   obtain⟨t',o',r1,rfl,rfl⟩:=HFIN.out _ _ _ HCR.out;refine⟨S4,t',o',rfl,r1,F4,HP4.out,?_⟩;refine Keeps.trans ((HK3.out.shrink (P:=fun i=>i<w3.heap.size)).side HB7.out (fun j q=> ?_)) HK4.out;have h1:=HK1.out.only.size;have h2:=HX2.out.size;have h3:=HS23.out;have h4:=HB.out;rcases q with q | q
   ·have:=q.1;omega
   ·omega
theorem V6i{tr p i:Nat}(k v:ByteArray)(hk:Z2o k)(hv:v.size<=80)(d:Nat):∀ {F:Nat->Prop} {S:StoreD} (D:Nat) (t:TT d) (w:World),Z0b w tr p i->¬F tr->PagerAt w p F S->Fm S->onT S d t->okT d t->d+1<=Z0z S->(Z0a d t).Nodup->d<D->D<=1000->
  cQ 94 #[tp tr,.int .i64 (atT d t),.int .i64 D,.string k,.string v] w (Z9l d p F S t k v w):=by
 induction d with
 | zero=>
   intro F S D t w ht hnt h hf hon hok hr hnd hd jH;exact V6g D t k v w ht hnt h hf hon hok hk hv hr hd
 | succ d ih=>
   intro F S D t w ht hnt h hf hon hok hr hnd hd jH;obtain⟨D',rfl⟩:∃D',D=D'+1:=⟨D-1,by omega⟩;exact V0v D' t k v w ht hnt h hf hon hok hk hv (by omega) hnd (by omega) (fun F w c hc q1 q2 q3=>ih D' c w q1 q2 q3 hf (hon.2 c hc) (hok.2.2.2.1 c hc) (by omega) ((Z1c hnd).1 c hc).2 (by omega) (by omega))
theorem X4c{S:StoreD}:∀(d:Nat) (t:TT d),onT S d t->okT d t->V9l S d (atT d t)
 | 0,t,h,_=>⟨_,h,rfl⟩
 | d+1,t,h,hok=>by
   refine⟨_,h.1,rfl,?_⟩;have hl:0<(InT.kids t).length:=by have:=hok.2.1;omega
   have e:((Z0c (d+1) t).kids[0]?.getD 0)=(atT d (InT.kids t)[0]:Int):=by show(((InT.kids t).map fun c=>(atT d c:Int))[0]?).getD 0=_;rw[List.getElem?_map,aB hl];rfl
   rw[e,Int.toNat_natCast];exact X4c d _ (h.2 _ (List.getElem_mem hl)) (hok.2.2.2.1 _ (List.getElem_mem hl))
def Z9a(mid:ByteArray)(a r:Nat):NodeD:=⟨false,[mid],[],[(a:Int),(r:Int)]⟩
theorem V7d(w:World)(mid:ByteArray)(a r:Nat):NodeAs ((w.alloc (.cells #[.string mid] 9)).alloc (.cells #[.int .i64 a,.int .i64 r] 3)) (fun i=>w.heap.size<=i) (Z9a mid a r) (.slice (some ⟨w.heap.size,0,none⟩) 1 1) (.slice none 0 0) (.slice (some ⟨w.heap.size+1,0,none⟩) 2 2):=by
 have h1:Row1 ((w.alloc (.cells #[.string mid] 9)).alloc (.cells #[.int .i64 a,.int .i64 r] 3)) w.heap.size 9 (([mid].flatMap encS)++ []):=Row1.alloc (Row1.made w _ [.string mid]) _;have h2:Row1 ((w.alloc (.cells #[.string mid] 9)).alloc (.cells #[.int .i64 a,.int .i64 r] 3)) (w.heap.size+1) 3 (([(a:Int),(r:Int)].flatMap encN)++ []):=Row1.made' (by simp) _ [.int .i64 a,.int .i64 r];refine⟨OwnL.ofRow (k:=1) h1 (Nat.zero_le _) (aF 1) (by decide) rfl Z0d,OwnL.nil _ _ _ _ _,OwnL.ofRow (k:=1) h2 (Nat.zero_le _) (aF 2) (by decide) rfl Z0j,fun b q q'=>(by cases q'),fun b q=> ?_,fun b q=> ?_,fun b q=> ?_⟩
 ·have e1:w.heap.size=b:=Option.some.inj q;omega
 ·cases q
 ·have e2:w.heap.size+1=b:=Option.some.inj q;omega
theorem V7c{mid:ByteArray}{a r:Nat}(hm:mid.size<=32)(ha:a<65536)(hr:r<65536):NodeOk (Z9a mid a r)/\Z0n (Z9a mid a r)<=256:=by
 refine⟨⟨fun x hx=> ?_,fun x hx=>by simp[Z9a]at hx,fun c hc=> ?_,by simp[Z9a],(fun q=>by cases q),fun _=>⟨rfl,rfl⟩⟩,by simp[Z0n,Z0o,Z9a];omega⟩
 ·simp only[Z9a,List.mem_singleton]at hx;subst hx;omega
 ·simp only[Z9a,List.mem_cons,List.not_mem_nil,or_false]at hc;rcases hc with rfl | rfl<;>exact⟨by omega,by omega⟩
theorem V5n{tr p i d:Nat}{F:Nat->Prop}{S:StoreD}(t:TT d)(k v:ByteArray)(w:World)(ht:Z0b w tr p i)(hnt:¬F tr)(h:PagerAt w p F S)(hi:i<16)(hf:Fm S)(hroot:Z1w S i=atT d t)(hon:onT S d t)(hok:okT d t)(hnd:(Z0a d t).Nodup)(hk:Z2o k)(hv:v.size<=80)(hroom:d+2<=Z0z S)(hd:d<32):
  cQ 34 #[tp tr,.string k,.string v] w fun e w'=>e= .returned (.int .i64 0)/\∃S' T',Y0r S i k v S' T' (.yes d t)/\∃F',PagerAt w' p F' S'/\Keeps F F' w w':=by
 have cR:=Z4d w ht hnt h hi;rw[hroot]at cR;have ha:2<=atT d t:=(Z0l d t hon _ (Z0r d t)).1;have HRO:Hid (∀W F1,Z0b W tr p i->¬F1 tr->PagerAt W p F1 S->cQ 93 #[tp tr,.int .i64 (atT d t)] W fun e w'=>e= .returned (.int .i64 0)/\∃F',PagerAt w' p F' S/\Keeps F1 F' W w'):=fun W F1 q1 q2 q3=>by have q:=V6a (atT d t) d W q1 q2 q3 (X4c d t hon hok) hd;rw[U0o,if_neg (by omega)]at q;exact q
 have HPU:Hid (∀W F1,Z0b W tr p i->¬F1 tr->PagerAt W p F1 S->cQ 94 #[tp tr,.int .i64 (atT d t),.int .i64 32,.string k,.string v] W (Z9l d p F1 S t k v W)):=fun W F1 q1 q2 q3=>
  V6i k v hk hv d 32 t W q1 q2 q3 hf hon hok (by omega) hnd hd (by decide)
 have HSOME:Hid (∀S1 t' mid r,PutR d S t k v S1 t' (some (mid,r))->∃top,lowS S1=some top/\atT d t'=atT d t/\2<=atT d r/\Z0s (Z1f S1 top) top/\Z0s (layP (Z1f S1 top) top (Z9a mid (atT d t) (atT d r))) top/\NodeOk (Z9a mid (atT d t) (atT d r))/\Z0n (Z9a mid (atT d t) (atT d r))<=256):=fun S1 t' mid r q=>by obtain⟨F1,hl⟩:=Z5i d q hf hon hok hk hv hnd;have hf1:=hf.stp hl.stp (fun b q=>by cases q);have hro:=X4f hl.stp hl.nd (fun b hb=>⟨(hl.fresh b hb).1,(hl.fresh b hb).2.2⟩);have hlen:=hl.len;obtain⟨top,htop⟩:=Y8i hf1 (by omega);obtain⟨r1,r2,r3⟩:=Z4z htop;have hm1:=hf1.most;have hR:=hl.right mid r rfl;have gr:=Z0l d r hR.on _ (Z0r d r);have ga:=Z0l d t' hl.on _ (Z0r d t');rw[hl.at_]at ga;have hmk:=(Y8l hok hk mid hR.key).2;obtain⟨n1,n2⟩:=V7c (a:=atT d t) (r:=atT d r) hmk (by have:=ga.2.1;omega) (by have:=gr.2.1;omega);have t1:=Z7b hf1.full r1 (by omega:top<2048);have g1:Z0s (Z1f S1 top) top:=t1.givenF r1 r2 (by simp) (by simp);exact⟨top,htop,hl.at_,gr.1,g1,(Z5n t1.full r1 n1 n2).given g1 (by simp),n1,n2⟩
 have HNONE:Hid (∀S1 t',PutR d S t k v S1 t' none->Y0r S i k v S1 (.yes d t') (.yes d t)):=fun S1 t' q=>⟨S1,t',none,q,rfl,rfl⟩;have HYES:Hid (∀S1 t' mid r top,PutR d S t k v S1 t' (some (mid,r))->lowS S1=some top->atT d t'=atT d t->Y0r S i k v (Z0q (layP (Z1f S1 top) top (Z9a mid (atT d t) (atT d r))) i top) (.yes (d+1) (InT.mk top [mid] [t',r])) (.yes d t)):=fun S1 t' mid r top q1 q2 q3=>by refine⟨S1,t',some (mid,r),q1,top,q2,?_,rfl⟩;rw[q3];rfl
 have hkk:¬k.toList= []:=Y9r hk.1;have hke:k.toList.isEmpty=false:=by cases h9:k.toList with | nil=>exact absurd h9 hkk | cons _ _=>rfl
 have hk2:=hk.2;have hkd:decide ((32:Int)<(k.size:Int))=false:=aM;have hvd:decide ((80:Int)<(v.size:Int))=false:=aM;have hkd':decide ((32:Nat)<k.size)=false:=aM;have hvd':decide ((80:Nat)<v.size)=false:=aM;obtain⟨a,hat⟩:∃a,atT d t=a:=⟨_,rfl⟩;rw[hat]at cR ha HRO HPU HSOME HYES;have ha0:decide ((a:Int)=0)=false:=aM;have ha1:((a:Int)==0)=false:=by simp;omega
 have HT:=hD ht;have HNT:=hD hnt;have HTL:=hD ht.lt;have HI:=hD hi;clear ht hnt h hroot hk hv hi hd hroom hf hon hok hnd hat hk2;go_enter Tryz.func34,Tryz.ntmps34;go_upto_region 20 with (first
  | (go_at_call 78;(with_reducible refine cR.mono ?_);clear cR;rintro e w1 ⟨rfl,F1,hp1,hk1⟩
     have hr1:Z0b w1 tr p i:=hk1.only.row HT.out HNT.out;have hn1:¬F1 tr:=hk1.out HTL.out HNT.out;have cO:=HRO.out w1 F1 hr1 hn1 hp1;have HR1:=hD hr1;have HN1:=hD hn1;have HK1:=hD hk1;clear hp1 hk1 hr1 hn1)
  | (go_at_call 93;(with_reducible refine cO.mono ?_);clear cO;rintro e w2 ⟨rfl,F2,hp2,hk2⟩
     have hr2:Z0b w2 tr p i:=hk2.only.row HR1.out HN1.out;have hn2:¬F2 tr:=hk2.out HR1.out.lt HN1.out;have cP:=HPU.out w2 F2 hr2 hn2 hp2;have HR2:=hD hr2;have HN2:=hD hn2;have HK2:Hid (Keeps F F2 w w2):=Keeps.trans HK1.out hk2;clear hp2 hk2 hr2 hn2)
  | (go_at_call 94;(with_reducible refine cP.mono ?_);clear cP;rintro e w3 ⟨S1,t',o,rfl,hput,F3,hp3,hk3⟩
     have HPUT:=hD hput;have HP3:=hD hp3;have HK3:Hid (Keeps F F3 w w3):=Keeps.trans HK2.out hk3;have HR3:Hid (Z0b w3 tr p i):=hk3.only.row HR2.out HN2.out;have HN3:Hid (¬F3 tr):=hk3.out HR2.out.lt HN2.out;clear hput hp3 hk3))
 cases o with
 | none=>
   have m0:midO d (none:Option (ByteArray×TT d))=⟨#[]⟩:=rfl;have r0:Y3q d (none:Option (ByteArray×TT d))=0:=rfl;rw[m0,r0];go_wp2_with fail;go_ret;exact⟨rfl,S1,_,HNONE.out _ _ HPUT.out,F3,HP3.out,HK3.out⟩
 | some x=>
   obtain⟨mid,r⟩:=x;have m0:midO d (some (mid,r))=mid:=rfl;have r0:Y3q d (some (mid,r))=atT d r:=rfl;rw[m0,r0];obtain⟨top,htop,hta,hr2,hg1,hg2,hn1,hn2⟩:=HSOME.out _ _ _ _ HPUT.out;have HFIN:=hD (HYES.out _ _ _ _ _ HPUT.out htop hta);obtain⟨ar,har⟩:∃ar,atT d r=ar:=⟨_,rfl⟩;rw[har]at hr2 hg2 hn1 hn2 HFIN ⊢;have T5:((ar:Int)==0)=false:=by simp;omega
   have T6:decide ((ar:Int)=0)=false:=aM;have cA:=Y1k top w3 HP3.out htop;have x0:w3.cell? ⟨tr,0,none⟩=some (tp p):=HR3.out.cell 0;have HGV:=hD hg2;have HLAY:Hid (∀W F2,Z0b W tr p i->¬F2 tr->PagerAt W p F2 (Z1f S1 top)->cQ 92 #[tp tr,.int .i64 top,.agg #[.bool false,.slice (some ⟨W.heap.size,0,none⟩) 1 1,.slice none 0 0,.slice (some ⟨W.heap.size+1,0,none⟩) 2 2]] ((W.alloc (.cells #[.string mid] 9)).alloc (.cells #[.int .i64 a,.int .i64 ar] 3)) fun e w'=>e= .returned (.int .i64 0)/\∃F',PagerAt w' p F' (layP (Z1f S1 top) top (Z9a mid a ar))/\Keeps F2 F' ((W.alloc (.cells #[.string mid] 9)).alloc (.cells #[.int .i64 a,.int .i64 ar] 3)) w'):=fun W F2 q1 q2 q3=>
    Y1p top (Z9a mid a ar) _ (Row1.alloc (Row1.alloc q1 _) _) q2 (q3.ext (Ext.trans (Ext.alloc _ _) (Ext.alloc _ _))) hg1 hn1 hn2 (V7d W mid a ar)
   clear htop hta hr2 hg1 hg2 hn1 hn2 har m0 r0;go_upto_region 28 with (first
    | (go_at_call 91;(with_reducible refine cA.mono ?_);clear cA;rintro e w4 ⟨rfl,F4,hp4,hk4⟩
       have hr4:Z0b w4 tr p i:=hk4.only.row HR3.out HN3.out;have hn4:¬F4 tr:=hk4.out HR3.out.lt HN3.out;have HR4:=hD hr4;have HN4:=hD hn4;have HP4:=hD hp4;have HK4:Hid (Keeps F F4 w w4):=Keeps.trans HK3.out hk4;clear hp4 hk4 hr4 hn4)
    | (go_at_call 92;(with_reducible refine(HLAY.out w4 F4 HR4.out HN4.out HP4.out).mono ?_);clear HLAY;rintro e w5 ⟨rfl,F5,hp5,hk5⟩
       have hx:Ext w4 ((w4.alloc (.cells #[.string mid] 9)).alloc (.cells #[.int .i64 a,.int .i64 ar] 3)):=Ext.trans (Ext.alloc _ _) (Ext.alloc _ _);have hk45:Keeps F4 F5 w4 w5:=Keeps.trans (Keeps.of hx) hk5;have hr5:Z0b w5 tr p i:=hk45.only.row HR4.out HN4.out;have HR5:=hD hr5;have HN5:Hid (¬F5 tr):=hk45.out HR4.out.lt HN4.out;have HP5:=hD hp5;have HK5:Hid (Keeps F F5 w w5):=Keeps.trans HK4.out hk45;clear hx hk45 hr5 hp5 hk5))
   have HC:Hid (∀W,Ext w5 W->W.cell? ⟨tr,0,none⟩=some (tp p)/\W.cell? ⟨tr,1,none⟩=some (.int .i64 i)):=fun W hW=>⟨(HR5.out.ext hW HR5.out.lt).cell 0,(HR5.out.ext hW HR5.out.lt).cell 1⟩;have cT:Hid (∀W,Ext w5 W->cQ 83 #[tp p,.int .i64 i,.int .i64 top] W fun e w'=>e= .returned (.int .i64 0)/\∃F',PagerAt w' p F' (Z0q (layP (Z1f S1 top) top (Z9a mid a ar)) i top)/\Keeps F5 F' W w'):=fun W hW=>Z6g i top W (HP5.out.ext hW) HI.out (.inr HGV.out);refine wp_region_held_drew (S:=fun W=>W.cell? ⟨tr,0,none⟩=some (tp p)/\W.cell? ⟨tr,1,none⟩=some (.int .i64 i)) (by kernel_rfl) (HC.out _ (by exact Xt)) (fun hHeld=> ?_);refine' tk 0 ?_;refine' tk 1 ?_;refine' tk 2 ?_;refine' tk 3 ?_;refine' tk 4 ?_;refine' tk 5 ?_;refine' tk 6 ?_;refine' tk 7 ?_;refine' tk 8 ?_;refine stp 9 (fun K hK=> ?_);go_simp
   (with_reducible refine(cT.out _ ?_).mono ?_)
   ·exact Xt
   rintro e w6 ⟨rfl,F6,hp6,hk6⟩;have hk56:Keeps F5 F6 w5 w6:=Keeps.trans (Keeps.of (by exact Xt)) hk6;have hr6:Z0b w6 tr p i:=hk56.only.row HR5.out HN5.out;have HC9:Hid (w6.cell? ⟨tr,0,none⟩=some (tp p)/\w6.cell? ⟨tr,1,none⟩=some (.int .i64 i)):=⟨hr6.cell 0,hr6.cell 1⟩;have HP6:=hD hp6;have HK6:Hid (Keeps F F6 w w6):=Keeps.trans HK5.out hk56;clear hp6 hk6 hk56 hr6
   (try dsimp only)
   (try go_simp)
   refine hK.out _ _ (HC9.out) (fun hHeld=> ?_);clear hK K;refine pt ?_;refine' tk 10 ?_;refine wpAnyH_done (by kernel_rfl) ?_ _;go_wp2_with fail;go_ret;exact⟨rfl,_,_,HFIN.out,F6,HP6.out,HK6.out⟩
theorem Y7o{tr p i:Nat}{F:Nat->Prop}{S:StoreD}(T:TrD)(k v:ByteArray)(w:World)(ht:Z0b w tr p i)(hnt:¬F tr)(h:PagerAt w p F S)(hi:i<16)(hf:Fm S)(hT:TrS S i T)(hk:Z2o k)(hv:v.size<=80)(hroom:T.need<=Z0z S)(hd:T.fine):
  cQ 34 #[tp tr,.string k,.string v] w fun e w'=>e= .returned (.int .i64 0)/\∃S' T',Y0r S i k v S' T' T/\∃F',PagerAt w' p F' S'/\Keeps F F' w w':=by
 cases T with
 | no=>
   obtain⟨a,ha⟩:=Y8i hf (by have:TrD.need .no=1:=rfl;omega);refine(V6f a k v w ht hnt h hi hT ha hk.1 hk.2 hv).mono ?_;rintro e w' ⟨rfl,q⟩;exact⟨rfl,_,_,⟨a,ha,rfl,rfl⟩,q⟩
 | yes d t=>exact V5n t k v w ht hnt h hi hf hT.1 hT.2.1 hT.2.2.1 hT.2.2.2 hk hv hroom (by have:d<31:=hd;omega)
end Go.Proofs.YtohaldfnmgcofaaGreat
