/- A node is written. Conditions: a node that a page holds. -/
import Derived.Test.YtmiolpfanlpfnaaGreatT23
set_option maxRecDepth 100000
set_option maxHeartbeats 4000000
set_option linter.unusedSimpArgs false
set_option linter.unusedVariables false
namespace Go.Proofs.YtmiolpfanlpfnaaGreat
open Go.RowKit
def BW(w wr:World)(cs:List Value)(l:List UInt8):Prop:=
 ∃F:Nat→Prop,BldAt wr (w.heap.size+1) F l∧(∀i,F i→w.heap.size+1≤i)∧Ext w wr∧Row1 wr w.heap.size 257 cs
theorem BW.step{w wr w':World}{cs:List Value}{l':List UInt8}{F F':Nat→Prop}(hF:∀i,F i→w.heap.size+1≤i)(hx:Ext w wr)(hr:Row1 wr w.heap.size 257 cs)(hb:BldAt w' (w.heap.size+1) F' l')(hk:Keeps F F' wr w'):BW w w' cs l':=by
 refine⟨F',hb,fun i q=> ?_,?_,hk.only.row hr (fun q=>by have:=hF _ q;omega)⟩
 ·rcases hk.new i q with q | q
  ·exact hF i q
  ·have:=hr.lt;omega
 ·refine Only.toExt (F:=fun i=>w.heap.size≤i) ?_ (fun i q=>q)
  exact(Only.of hx).trans' (hk.only.mono (fun i q=> .inl (by have:=hF i q;omega)))
theorem V7f{w W:World}{cs:List Value}{l:List UInt8}(m:Nat)(hm:m<256)(h:BW w W cs l)(hl:l.length≤1000000):
  Calls Tryz.prog 261 #[.pointer (some ⟨w.heap.size+1,0,none⟩),.int .u8 (m:Int)] W fun e w'=>e= .returned .nilIface∧BW w w' cs (l++ [UInt8.ofNat m]):=by
 obtain⟨F,h1,h2,h3,h4⟩:=h
 have hc:=X1n (UInt8.ofNat m) h1 (by omega)
 rw[UInt8.toNat_ofNat_of_lt' hm]at hc
 refine hc.mono ?_
 rintro e w' ⟨rfl,F',q1,q2⟩
 exact⟨rfl,BW.step h2 h3 h4 q1 q2⟩
theorem X3x{w W:World}{cs:List Value}{l:List UInt8}(s:ByteArray)(hs:s.size≤1000)(h:BW w W cs l)(hl:l.length≤1000000):
  Calls Tryz.prog 172 #[.pointer (some ⟨w.heap.size+1,0,none⟩),.string s] W fun e w'=>e= .returned (.tuple #[.int .i64 s.size,.nilIface])∧BW w w' cs (l++s.data.toList):=by
 obtain⟨F,h1,h2,h3,h4⟩:=h
 refine(Z5y s h1 (by omega)).mono ?_
 rintro e w' ⟨rfl,F',q1,q2⟩
 exact⟨rfl,BW.step h2 h3 h4 q1 q2⟩
theorem V7e{w W:World}{cs:List Value}{l:List UInt8}(h:BW w W cs l)(h0:l≠ []):
  Calls Tryz.prog 175 #[.pointer (some ⟨w.heap.size+1,0,none⟩)] W fun e w'=>e= .returned (.string (bts l))∧Ext w w':=by
 obtain⟨F,h1,h2,h3,h4⟩:=h
 refine(Z8k h1 h0).mono ?_
 rintro e w' ⟨rfl,q2⟩
 refine⟨rfl,Only.toExt (F:=fun i=>w.heap.size≤i) ?_ (fun i q=>q)⟩
 exact(Only.of h3).trans' (q2.mono (fun i q=> .inl (by have:=h2 i q;omega)))
def preL(n:NodeD)(i:Nat):List UInt8:=(if n.leaf=true then 1 else 2)::UInt8.ofNat n.keys.length::((List.range' 0 i).flatMap (entL n))
theorem Y2s(n:NodeD)(i:Nat):preL n (i+1)=preL n i++entL n i:=by
 unfold preL
 rw[List.range'_1_concat,List.flatMap_append]
 simp
theorem X2u(n:NodeD):preL n n.keys.length++Z5j n 0=Z2e n:=by
 unfold preL Z2e Z2k
 rw[Nat.sub_zero]
 rfl
def preK(n:NodeD)(j:Nat):List UInt8:=preL n n.keys.length++(n.kids.take j).flatMap kidL
theorem X8x(n:NodeD){j:Nat}(h:j<n.kids.length):preK n (j+1)=preK n j++kidL n.kids[j]:=by
 unfold preK
 rw[Y4u _ _ h,List.flatMap_append,List.append_assoc]
 simp
theorem V3z(n:NodeD):preK n n.kids.length=Z2e n:=by
 unfold preK
 rw[List.take_length,←X2u]
 rfl
theorem Y1s(n:NodeD)(hn:NodeOk n):∀i,i≤n.keys.length→(preL n i).length≤2+600*i
 | 0,_=>by simp[preL]
 | i+1,h=>by
   have ih:=Y1s n hn i (by omega)
   rw[Y2s,List.length_append]
   have h1:(entL n i).length≤600:=by
    unfold entL
    rw[List.length_append,Z7n,List.getElem?_eq_getElem (by omega:i<n.keys.length)]
    have h2:=hn.keys _ (List.getElem_mem (show i<n.keys.length by omega))
    simp only[Option.getD_some]
    split
    ·rw[Z7n]
     have h3:(n.vals[i]?.getD ByteArray.empty).size≤255:=by
      cases hv:n.vals[i]? with
      | none=>simp
      | some v=>exact hn.vals v (List.mem_of_getElem? hv)
     omega
    ·simp;omega
   omega
theorem V3y(n:NodeD)(hn:NodeOk n)(j:Nat):(preK n j).length≤200000+2*n.kids.length:=by
 have h:∀l:List Int,(l.flatMap kidL).length=2*l.length:=fun l=>by
  induction l with
  | nil=>rfl
  | cons c r ih=>rw[List.flatMap_cons,List.length_append,ih,List.length_cons];show 2+_=_;omega
 unfold preK
 rw[List.length_append,h,List.length_take]
 have h1:=Y1s n hn n.keys.length (Nat.le_refl _)
 have:=hn.many
 omega
theorem X4f{n:NodeD}{kv vv cv:Value}(w:World)(h:NodeRd w n kv vv cv)(hn:NodeOk n)(hl:n.leaf=true):
  Calls Tryz.prog 217 #[.agg #[.bool n.leaf,kv,vv,cv]] w fun e w'=>e= .returned (.string (bts (Z2e n)))∧Ext w w':=by
 obtain⟨hvl,hkids⟩:=hn.leafs hl
 obtain⟨kA,kc,rfl,_,_,hkx⟩:=Z3n h.keys
 obtain⟨vA,vc,rfl,_,_,hvx⟩:=Z3n h.vals
 obtain⟨cA,cc,rfl,_,_,_⟩:=Z8u h.kids
 have HKX:=hD hkx
 have HVX:=hD hvx
 obtain⟨K,hK⟩:∃K,n.keys.length=K:=⟨_,rfl⟩
 have HK:=hD hK
 have HV:Hid (n.vals.length=K):=by unfold Hid;omega
 have HE:Hid (preL n K=Z2e n):=by
  unfold Hid
  rw[←hK]
  have:=X2u n
  rwa [show Z5j n 0= []by unfold Z5j;rw[hkids];rfl,List.append_nil]at this
 have hK255:K≤255:=by rw[←hK];exact hn.many
 have HPL:Hid (∀i,i≤K→(preL n i).length≤200000):=fun i hi=>by have:=Y1s n hn i (by omega);omega
 rw[hK,show n.vals.length=K from HV.out,show n.kids.length=0 by rw[hkids];rfl,hl]
 have HN:=hD hn
 have HL:=hD hl
 have HP0:Hid (preL n 0= [1,UInt8.ofNat K]):=by unfold Hid preL;rw[if_pos hl,hK];rfl
 have cB:Hid (∀(m:Nat) (l:List UInt8) W,m<256→BW w W [.bool true,.slice kA K kc,.slice vA K vc,.slice cA 0 cc] l→l.length≤1000000→Calls Tryz.prog 261 #[.pointer (some ⟨w.heap.size+1,0,none⟩),.int .u8 (m:Int)] W fun e w'=>e= .returned .nilIface∧BW w w' [.bool true,.slice kA K kc,.slice vA K vc,.slice cA 0 cc] (l++ [UInt8.ofNat m])):=fun m l W hm hb hl=>V7f m hm hb hl
 have cS:Hid (∀(s:ByteArray) (l:List UInt8) W,s.size≤1000→BW w W [.bool true,.slice kA K kc,.slice vA K vc,.slice cA 0 cc] l→l.length≤1000000→Calls Tryz.prog 172 #[.pointer (some ⟨w.heap.size+1,0,none⟩),.string s] W fun e w'=>e= .returned (.tuple #[.int .i64 s.size,.nilIface])∧BW w w' [.bool true,.slice kA K kc,.slice vA K vc,.slice cA 0 cc] (l++s.data.toList)):=fun s l W hs hb hl=>X3x s hs hb hl
 have cT:Hid (∀(l:List UInt8) W,BW w W [.bool true,.slice kA K kc,.slice vA K vc,.slice cA 0 cc] l→l≠ []→Calls Tryz.prog 175 #[.pointer (some ⟨w.heap.size+1,0,none⟩)] W fun e w'=>e= .returned (.string (bts l))∧Ext w w'):=fun l W hb h0=>V7e hb h0
 have HB0:Hid (BW w ((w.alloc (.cells #[.bool true,.slice kA K kc,.slice vA K vc,.slice cA 0 cc] 257)).alloc (.cells #[.pointer none,.slice none 0 0] 248)) [.bool true,.slice kA K kc,.slice vA K vc,.slice cA 0 cc] []):=by
  refine⟨fun i=>i=w.heap.size+1,?_,fun i q=>by omega,by exact Xt,(Row1.made w _ _).alloc _⟩
  have:=BldAt.made (w.alloc (.cells #[.bool true,.slice kA K kc,.slice vA K vc,.slice cA 0 cc] 257))
  rwa [World.size_alloc]at this
 have HCE:Hid (∀W l,BW w W [.bool true,.slice kA K kc,.slice vA K vc,.slice cA 0 cc] l→Hid (Ext w W)∧W.cell? ⟨w.heap.size,0,none⟩=some (.bool true)∧W.cell? ⟨w.heap.size,1,none⟩=some (.slice kA K kc)∧W.cell? ⟨w.heap.size,2,none⟩=some (.slice vA K vc)∧W.cell? ⟨w.heap.size,3,none⟩=some (.slice cA 0 cc)):=fun W l ⟨F,_,_,hx,hr⟩=>⟨hx,hr.cell 0,hr.cell 1,hr.cell 2,hr.cell 3⟩
 have u1:IntKind.u8.wrap (K:Int)=K:=by rw[IntKind.wrap_u8];omega
 have q31:(1:Nat)<256:=by omega
 have cB1:Calls Tryz.prog 261 #[.pointer (some ⟨w.heap.size+1,0,none⟩),.int .u8 1] _ fun e w'=>e= .returned .nilIface∧BW w w' [.bool true,.slice kA K kc,.slice vA K vc,.slice cA 0 cc] [1]:=cB.out 1 [] _ q31 HB0.out (by simp)
 clear h hkx hvx hn hl hvl hkids hK
 go_enter Tryz.func217,Tryz.ntmps217
 go_wp2_with (first
  | (go_at_call 261;(with_reducible refine cB1.mono ?_);clear cB1;rintro e w1 ⟨rfl,hb1⟩;obtain⟨HX1,d0,d1,d2,d3⟩:=HCE.out _ _ hb1;have cB2:=cB.out K _ _ (by omega) hb1 (by simp);clear hb1)
  | (go_at_call 261;(with_reducible refine cB2.mono ?_);clear cB2;rintro e w2 ⟨rfl,hb2⟩;obtain⟨HX2,e0,e1,e2,e3⟩:=HCE.out _ _ hb2;have HB2:=hD hb2;clear hb2))
 have HB2:Hid (BW w w2 [.bool true,.slice kA K kc,.slice vA K vc,.slice cA 0 cc] (preL n 0)):=by rw[HP0.out];exact HB2.out
 clear d0 d1 d2 d3 e0 e1 e2 e3
 go_loopw [21] (fun i wr=>∃k:Nat,k≤K∧i= .int .i64 k∧BW w wr [.bool true,.slice kA K kc,.slice vA K vc,.slice cA 0 cc] (preL n k)) (fun i _=>K-(intOf i).toNat)
 case atStart=>exact⟨0,by omega,rfl,HB2.out⟩
 case round=>
  obtain⟨k,hk,rfl,hbw⟩:=hrel
  have HBW:=hD hbw
  obtain⟨HXW,r0,r1,r2,r3⟩:=HCE.out _ _ hbw
  clear hbw
  by_cases hkl:k<K
  ·have q1:decide ((k:Int)<K)=true:=decide_eq_true (by omega)
   have q1':decide (k<K)=true:=decide_eq_true hkl
   have hkk:k<n.keys.length:=by rw[HK.out];exact hkl
   have hkv:k<n.vals.length:=by rw[HV.out];exact hkl
   obtain⟨kb,ko,rfl,hkb,hkc⟩:=HKX.out (by omega)
   obtain⟨vb,vo,rfl,hvb,hvc⟩:=HVX.out (by omega)
   have HCK:=hD (hkc k hkk)
   have HCV:=hD (hvc k hkv)
   have hk1:=HN.out.keys _ (List.getElem_mem hkk)
   have hv1:=HN.out.vals _ (List.getElem_mem hkv)
   have HST:Hid (preL n (k+1)=preL n k++ [UInt8.ofNat n.keys[k].size]++n.keys[k].data.toList++ [UInt8.ofNat n.vals[k].size]++n.vals[k].data.toList):=by
    unfold Hid
    rw[Y2s]
    unfold entL
    rw[if_pos HL.out,List.getElem?_eq_getElem hkk,List.getElem?_eq_getElem hkv]
    simp[lenL]
   obtain⟨x,hx⟩:∃x,n.keys[k]=x:=⟨_,rfl⟩
   obtain⟨y,hy⟩:∃y,n.vals[k]=y:=⟨_,rfl⟩
   rw[hx]at HCK hk1 HST
   rw[hy]at HCV hv1 HST
   have hpl:=HPL.out k hk
   have c0:wr.cell? ⟨kb,ko+k,none⟩=some (.string x):=(HXW.out.cell (p:=⟨kb,ko+k,none⟩) hkb).trans HCK.out
   have x1:IntKind.u8.wrap (x.size:Int)=x.size:=by rw[IntKind.wrap_u8];omega
   have y1:IntKind.u8.wrap (y.size:Int)=y.size:=by rw[IntKind.wrap_u8];omega
   have hxl:x.data.toList.length=x.size:=by rw[Array.length_toList];rfl
   have cA1:=cB.out x.size _ _ (by omega) HBW.out (by omega)
   have HXL:=hD hxl
   clear hx hy hkc hvc hxl
   go_wp2_with (first
    | (go_at_call 261;(with_reducible refine cA1.mono ?_);clear cA1;rintro e w3 ⟨rfl,hb3⟩;obtain⟨HX3,s0,s1,s2,s3⟩:=HCE.out _ _ hb3;have cA2:=cS.out x _ _ (by omega) hb3 (by rw[List.length_append];simp;omega);clear hb3)
    | (go_at_call 172;(with_reducible refine cA2.mono ?_);clear cA2;rintro e w4 ⟨rfl,hb4⟩;obtain⟨HX4,t0,t1,t2,t3⟩:=HCE.out _ _ hb4;have g0:w4.cell? ⟨vb,vo+k,none⟩=some (.string y):=(HX4.out.cell (p:=⟨vb,vo+k,none⟩) hvb).trans HCV.out;have cA3:=cB.out y.size _ _ (by omega) hb4 (by rw[List.length_append,List.length_append,HXL.out];simp;omega);clear hb4)
    | (go_at_call 261;(with_reducible refine cA3.mono ?_);clear cA3;rintro e w5 ⟨rfl,hb5⟩;obtain⟨HX5,v0,v1,v2,v3⟩:=HCE.out _ _ hb5;have i0:w5.cell? ⟨vb,vo+k,none⟩=some (.string y):=(HX5.out.cell (p:=⟨vb,vo+k,none⟩) hvb).trans HCV.out;have cA4:=cS.out y _ _ (by omega) hb5 (by rw[List.length_append,List.length_append,List.length_append,HXL.out];simp;omega);clear hb5)
    | (go_at_call 172;(with_reducible refine cA4.mono ?_);clear cA4;rintro e w6 ⟨rfl,hb6⟩;have HB6:=hD hb6;clear hb6))
   go_roundw
   case rel=>exact⟨k+1,by omega,by go_num,by rw[HST.out];exact HB6.out⟩
   case measure=>simp[intOf];omega
  ·obtain rfl:k=K:=by omega
   have q1:decide ((k:Int)<k)=false:=decide_eq_false (by omega)
   have hne:preL n k≠ []:=by unfold preL;simp
   have cTT:=cT.out _ _ HBW.out hne
   rw[HE.out]at cTT
   have HTT:=hD cTT
   clear cTT hne
   go_wp2_with fail
   go_loop [52] (fun i=>i= .int .i64 0) (fun _=>0)
   case atStart=>rfl
   case round=>
    subst hrel
    go_wp2_with (go_at_call 175;(with_reducible refine HTT.out.mono ?_);rintro e w7 ⟨rfl,hb7⟩)
    go_ret
    exact⟨rfl,hb7⟩
theorem Y9z{n:NodeD}{kv vv cv:Value}(w:World)(h:NodeRd w n kv vv cv)(hn:NodeOk n)(hl:n.leaf=false):
  Calls Tryz.prog 217 #[.agg #[.bool n.leaf,kv,vv,cv]] w fun e w'=>e= .returned (.string (bts (Z2e n)))∧Ext w w':=by
 obtain⟨hvl,hkids⟩:=hn.inner hl
 obtain⟨kA,kc,rfl,_,_,hkx⟩:=Z3n h.keys
 obtain⟨vA,vc,rfl,_,_,hvx⟩:=Z3n h.vals
 obtain⟨cA,cc,rfl,_,_,hcx⟩:=Z8u h.kids
 have HCX:=hD hcx
 have HKX:=hD hkx
 have HVX:=hD hvx
 obtain⟨K,hK⟩:∃K,n.keys.length=K:=⟨_,rfl⟩
 have HK:=hD hK
 have HC:Hid (n.kids.length=K+1):=by unfold Hid;omega
 have HE:Hid (preK n (K+1)=Z2e n):=by unfold Hid;rw[←HC.out];exact V3z n
 have hK255:K≤255:=by rw[←hK];exact hn.many
 have HPL:Hid (∀i,i≤K→(preL n i).length≤200000):=fun i hi=>by have:=Y1s n hn i (by omega);omega
 have HPK:Hid (∀j,(preK n j).length≤210000):=fun j=>by have:=V3y n hn j;rw[HC.out]at this;omega
 have HPE:Hid (preK n 0=preL n K):=by unfold Hid preK;rw[hK];simp
 rw[hK,show n.vals.length=0 by rw[hvl];rfl,HC.out,hl]
 have HN:=hD hn
 have HL:=hD hl
 have HP0:Hid (preL n 0= [2,UInt8.ofNat K]):=by unfold Hid preL;rw[if_neg (by rw[hl];simp),hK];rfl
 have cB:Hid (∀(m:Nat) (l:List UInt8) W,m<256→BW w W [.bool false,.slice kA K kc,.slice vA 0 vc,.slice cA (K+1) cc] l→l.length≤1000000→Calls Tryz.prog 261 #[.pointer (some ⟨w.heap.size+1,0,none⟩),.int .u8 (m:Int)] W fun e w'=>e= .returned .nilIface∧BW w w' [.bool false,.slice kA K kc,.slice vA 0 vc,.slice cA (K+1) cc] (l++ [UInt8.ofNat m])):=fun m l W hm hb hl=>V7f m hm hb hl
 have cS:Hid (∀(s:ByteArray) (l:List UInt8) W,s.size≤1000→BW w W [.bool false,.slice kA K kc,.slice vA 0 vc,.slice cA (K+1) cc] l→l.length≤1000000→Calls Tryz.prog 172 #[.pointer (some ⟨w.heap.size+1,0,none⟩),.string s] W fun e w'=>e= .returned (.tuple #[.int .i64 s.size,.nilIface])∧BW w w' [.bool false,.slice kA K kc,.slice vA 0 vc,.slice cA (K+1) cc] (l++s.data.toList)):=fun s l W hs hb hl=>X3x s hs hb hl
 have cT:Hid (∀(l:List UInt8) W,BW w W [.bool false,.slice kA K kc,.slice vA 0 vc,.slice cA (K+1) cc] l→l≠ []→Calls Tryz.prog 175 #[.pointer (some ⟨w.heap.size+1,0,none⟩)] W fun e w'=>e= .returned (.string (bts l))∧Ext w w'):=fun l W hb h0=>V7e hb h0
 have HB0:Hid (BW w ((w.alloc (.cells #[.bool false,.slice kA K kc,.slice vA 0 vc,.slice cA (K+1) cc] 257)).alloc (.cells #[.pointer none,.slice none 0 0] 248)) [.bool false,.slice kA K kc,.slice vA 0 vc,.slice cA (K+1) cc] []):=by
  refine⟨fun i=>i=w.heap.size+1,?_,fun i q=>by omega,by exact Xt,(Row1.made w _ _).alloc _⟩
  have:=BldAt.made (w.alloc (.cells #[.bool false,.slice kA K kc,.slice vA 0 vc,.slice cA (K+1) cc] 257))
  rwa [World.size_alloc]at this
 have HCE:Hid (∀W l,BW w W [.bool false,.slice kA K kc,.slice vA 0 vc,.slice cA (K+1) cc] l→Hid (Ext w W)∧W.cell? ⟨w.heap.size,0,none⟩=some (.bool false)∧W.cell? ⟨w.heap.size,1,none⟩=some (.slice kA K kc)∧W.cell? ⟨w.heap.size,2,none⟩=some (.slice vA 0 vc)∧W.cell? ⟨w.heap.size,3,none⟩=some (.slice cA (K+1) cc)):=fun W l ⟨F,_,_,hx,hr⟩=>⟨hx,hr.cell 0,hr.cell 1,hr.cell 2,hr.cell 3⟩
 have u1:IntKind.u8.wrap (K:Int)=K:=by rw[IntKind.wrap_u8];omega
 have q31:(2:Nat)<256:=by omega
 have cB1:Calls Tryz.prog 261 #[.pointer (some ⟨w.heap.size+1,0,none⟩),.int .u8 2] _ fun e w'=>e= .returned .nilIface∧BW w w' [.bool false,.slice kA K kc,.slice vA 0 vc,.slice cA (K+1) cc] [2]:=cB.out 2 [] _ q31 HB0.out (by simp)
 clear h hkx hvx hcx hn hl hvl hkids hK
 go_enter Tryz.func217,Tryz.ntmps217
 go_wp2_with (first
  | (go_at_call 261;(with_reducible refine cB1.mono ?_);clear cB1;rintro e w1 ⟨rfl,hb1⟩;obtain⟨HX1,d0,d1,d2,d3⟩:=HCE.out _ _ hb1;have cB2:=cB.out K _ _ (by omega) hb1 (by simp);clear hb1)
  | (go_at_call 261;(with_reducible refine cB2.mono ?_);clear cB2;rintro e w2 ⟨rfl,hb2⟩;obtain⟨HX2,e0,e1,e2,e3⟩:=HCE.out _ _ hb2;have HB2:=hD hb2;clear hb2))
 have HB2:Hid (BW w w2 [.bool false,.slice kA K kc,.slice vA 0 vc,.slice cA (K+1) cc] (preL n 0)):=by rw[HP0.out];exact HB2.out
 clear d0 d1 d2 d3 e0 e1 e2 e3
 go_loopw [21] (fun i wr=>∃k:Nat,k≤K∧i= .int .i64 k∧BW w wr [.bool false,.slice kA K kc,.slice vA 0 vc,.slice cA (K+1) cc] (preL n k)) (fun i _=>K-(intOf i).toNat)
 case atStart=>exact⟨0,by omega,rfl,HB2.out⟩
 case round=>
  obtain⟨k,hk,rfl,hbw⟩:=hrel
  have HBW:=hD hbw
  obtain⟨HXW,r0,r1,r2,r3⟩:=HCE.out _ _ hbw
  clear hbw
  by_cases hkl:k<K
  ·have q1:decide ((k:Int)<K)=true:=decide_eq_true (by omega)
   have q1':decide (k<K)=true:=decide_eq_true hkl
   have hkk:k<n.keys.length:=by rw[HK.out];exact hkl
   obtain⟨kb,ko,rfl,hkb,hkc⟩:=HKX.out (by omega)
   have HCK:=hD (hkc k hkk)
   have hk1:=HN.out.keys _ (List.getElem_mem hkk)
   have HST:Hid (preL n (k+1)=preL n k++ [UInt8.ofNat n.keys[k].size]++n.keys[k].data.toList):=by
    unfold Hid
    rw[Y2s]
    unfold entL
    rw[if_neg (by rw[HL.out];simp),List.getElem?_eq_getElem hkk]
    simp[lenL]
   obtain⟨x,hx⟩:∃x,n.keys[k]=x:=⟨_,rfl⟩
   rw[hx]at HCK hk1 HST
   have hpl:=HPL.out k hk
   have c0:wr.cell? ⟨kb,ko+k,none⟩=some (.string x):=(HXW.out.cell (p:=⟨kb,ko+k,none⟩) hkb).trans HCK.out
   have x1:IntKind.u8.wrap (x.size:Int)=x.size:=by rw[IntKind.wrap_u8];omega
   have cA1:=cB.out x.size _ _ (by omega) HBW.out (by omega)
   clear hx hkc
   go_wp2_with (first
    | (go_at_call 261;(with_reducible refine cA1.mono ?_);clear cA1;rintro e w3 ⟨rfl,hb3⟩;obtain⟨HX3,s0,s1,s2,s3⟩:=HCE.out _ _ hb3;have cA2:=cS.out x _ _ (by omega) hb3 (by rw[List.length_append];simp;omega);clear hb3)
    | (go_at_call 172;(with_reducible refine cA2.mono ?_);clear cA2;rintro e w4 ⟨rfl,hb4⟩;obtain⟨HX4,t0,t1,t2,t3⟩:=HCE.out _ _ hb4;have HB6:=hD hb4;clear hb4))
   go_roundw
   case rel=>exact⟨k+1,by omega,by go_num,by rw[HST.out];exact HB6.out⟩
   case measure=>simp[intOf];omega
  ·obtain rfl:k=K:=by omega
   have q1:decide ((k:Int)<k)=false:=decide_eq_false (by omega)
   have HB7:=HBW.out
   rw[←HPE.out]at HB7
   have HB7:=hD HB7
   go_wp2_with fail
   clear r0 r1 r2 r3
   go_loopw [52] (fun i wr=>∃j:Nat,j≤k+1∧i= .int .i64 j∧BW w wr [.bool false,.slice kA k kc,.slice vA 0 vc,.slice cA (k+1) cc] (preK n j)) (fun i _=>k+1-(intOf i).toNat)
   case atStart=>exact⟨0,by omega,rfl,HB7.out⟩
   case round=>
    obtain⟨j,hj,rfl,hbw⟩:=hrel
    have HBK:=hD hbw
    obtain⟨HXK,r0,r1,r2,r3⟩:=HCE.out _ _ hbw
    clear hbw
    by_cases hjl:j<k+1
    ·have q2:decide ((j:Int)<k+1)=true:=decide_eq_true (by omega)
     have q2':decide (j<k+1)=true:=decide_eq_true hjl
     have hjk:j<n.kids.length:=by rw[HC.out];exact hjl
     obtain⟨cb,co,rfl,hcb,hcc⟩:=HCX.out (by rw[HC.out];omega)
     have hc0:=HN.out.kids _ (List.getElem_mem hjk)
     have c0:=(HXK.out.cell (p:=⟨cb,co+j,none⟩) hcb).trans (hcc j hjk)
     have HST:Hid (preK n (j+1)=preK n j++ [UInt8.ofNat (n.kids[j].toNat%256)]++ [UInt8.ofNat (n.kids[j].toNat/256%256)]):=by
      unfold Hid
      rw[X8x n hjk]
      simp[kidL]
     obtain⟨c,hc⟩:∃c:Nat,n.kids[j]=c:=⟨n.kids[j].toNat,by omega⟩
     rw[hc]at c0 hc0 HST
     rw[Int.toNat_natCast]at HST
     have hpl:=HPK.out j
     obtain⟨b0,hb0⟩:∃b,c%256=b:=⟨_,rfl⟩
     obtain⟨b1,hb1⟩:∃b,c/256%256=b:=⟨_,rfl⟩
     rw[hb0,hb1]at HST
     have hb0l:b0<256:=by omega
     have hb1l:b1<256:=by omega
     have x1:IntKind.u8.wrap (c:Int)=(b0:Int):=by rw[IntKind.wrap_u8];omega
     have x2:IntKind.u8.wrap ((c:Int)/256)=(b1:Int):=by rw[IntKind.wrap_u8];omega
     have cA1:=cB.out b0 _ _ hb0l HBK.out (by omega)
     clear hb0 hb1
     clear hc hcc
     go_wp2_with (first
      | (go_at_call 261;(with_reducible refine cA1.mono ?_);clear cA1;rintro e w8 ⟨rfl,hb8⟩;obtain⟨HX8,s0,s1,s2,s3⟩:=HCE.out _ _ hb8;have cA2:=cB.out b1 _ _ hb1l hb8 (by rw[List.length_append];simp;omega);clear hb8)
      | (go_at_call 261;(with_reducible refine cA2.mono ?_);clear cA2;rintro e w9 ⟨rfl,hb9⟩;have HB9:=hD hb9;clear hb9))
     go_roundw
     case rel=>exact⟨j+1,by omega,by go_num,by rw[HST.out];exact HB9.out⟩
     case measure=>simp[intOf];omega
    ·obtain rfl:j=k+1:=by omega
     have q2:decide (((k+1:Nat):Int)<k+1)=false:=decide_eq_false (by omega)
     have q2':decide (k+1<k+1)=false:=decide_eq_false (by omega)
     have hne:preK n (k+1)≠ []:=by unfold preK preL;simp
     have cTT:=cT.out _ _ HBK.out hne
     rw[HE.out]at cTT
     have HTT:=hD cTT
     clear cTT hne
     go_wp2_with (go_at_call 175;(with_reducible refine HTT.out.mono ?_);rintro e w7 ⟨rfl,hb7⟩)
     go_ret
     exact⟨rfl,hb7⟩
structure PageN (S:StoreD) (a:Nat) (n:NodeD):Prop where
 given:Z0r S a
 ok:NodeOk n
 fits:(Z2e n).length≤256
 view:Z1a S a=padB (bts (Z2e n))
theorem V1m(n:NodeD)(hn:NodeOk n):(Z2k n 0).length=Z0n n.keys+Z0n n.vals:=by
 have h:∀i,i≤n.keys.length→((List.range' 0 i).flatMap (entL n)).length=Z0n (n.keys.take i)+Z0n (n.vals.take i):=fun i=>by
  induction i with
  | zero=>intro _;simp[Z0n]
  | succ i ih=>
    intro hi
    rw[List.range'_1_concat,List.flatMap_append,List.length_append,ih (by omega),Z7o _ _ (by omega)]
    simp only[List.flatMap_cons,List.flatMap_nil,List.append_nil,Nat.zero_add]
    unfold entL
    rw[List.length_append,Z7n,List.getElem?_eq_getElem (show i<n.keys.length by omega)]
    cases hl:n.leaf with
    | true=>
      have hv:=(hn.leafs hl).1
      rw[Z7o _ _ (by omega),if_pos rfl,Z7n,List.getElem?_eq_getElem (show i<n.vals.length by omega)]
      simp only[Option.getD_some]
      omega
    | false=>
      have hv:=(hn.inner hl).1
      rw[hv]
      simp only[Option.getD_some,List.take_nil]
      simp
      omega
 unfold Z2k
 rw[Nat.sub_zero,h _ (Nat.le_refl _),List.take_length]
 cases hl:n.leaf with
 | true=>rw[←(hn.leafs hl).1,List.take_length]
 | false=>rw[(hn.inner hl).1];simp
theorem V0e(l:List Int):(l.flatMap kidL).length=2*l.length:=by
 induction l with
 | nil=>rfl
 | cons c r ih=>rw[List.flatMap_cons,List.length_append,ih,List.length_cons];show 2+_=_;omega
theorem Z6t(n:NodeD)(hn:NodeOk n):(Z2e n).length=Z0m n:=by
 unfold Z2e
 rw[List.length_cons,List.length_cons,List.length_append,V1m n hn]
 unfold Z5j Z0m
 rw[List.drop_zero,V0e]
 omega
theorem X9c(l:List UInt8)(h:l.length≤256):padB (bts l)=bts (l++List.replicate (256-l.length) 0):=by
 rw[←Y1t (bts l) (256-l.length) (by rw[Z0h]) (by rw[Z0h];exact h),Y0w]
theorem X9a(n:NodeD)(tail:List UInt8)(w:World)(hn:NodeOk n)(hsz:(Z2e n).length+tail.length≤100000):
  Calls Tryz.prog 227 #[.string (bts (Z2e n++tail))] w fun e w'=>∃kv vv cv,e= .returned (.tuple #[X0v n kv vv cv,.int .i64 0])∧NodeAs w' (fun i=>w.heap.size≤i) n kv vv cv∧Ext w w':=by
 cases hl:n.leaf with
 | true=>exact X5i n tail w hn hl hsz
 | false=>exact X0r n tail w hn hl hsz
theorem V2q{n:NodeD}{kv vv cv:Value}(w:World)(h:NodeRd w n kv vv cv)(hn:NodeOk n):
  Calls Tryz.prog 217 #[.agg #[.bool n.leaf,kv,vv,cv]] w fun e w'=>e= .returned (.string (bts (Z2e n)))∧Ext w w':=by
 cases hl:n.leaf with
 | true=>have:=X4f w h hn hl;rwa [hl]at this
 | false=>have:=Y9z w h hn hl;rwa [hl]at this
abbrev Z0b(w:World)(t p i:Nat):Prop:=Row1 w t 245 [.pointer (some ⟨p,0,none⟩),.int .i64 i]
theorem X8q{fn:Func}(h:fn.results= #[.cell 4 257,.tmp 5])(tmps:Array Value)(w:World)(B:Nat)(n:NodeD)(kv vv cv v:Value)(hB:tmps.getD 4 undef= .pointer (some ⟨B,0,none⟩))(hv:tmps.getD 5 undef=v)(hr:Row1 w B 257 [.bool n.leaf,kv,vv,cv]):
  (results fn tmps).run Tryz.prog w= .ok (.tuple #[X0v n kv vv cv,v]) w:=by
 rw[results_cell_tmp h,hB,hv]
 have c0:w.cell? ⟨B,0,none⟩=some (.bool n.leaf):=hr.cell 0
 have c1:w.cell? ⟨B,1,none⟩=some kv:=hr.cell 1
 have c2:w.cell? ⟨B,2,none⟩=some vv:=hr.cell 2
 have c3:w.cell? ⟨B,3,none⟩=some cv:=hr.cell 3
 unfold X0v
 go_simp
theorem X3a{t p i:Nat}{F:Nat→Prop}{S:StoreD}(a:Nat)(n:NodeD)(w:World)(ht:Z0b w t p i)(h:PagerAt w p F S)(hp:PageN S a n):
  Calls Tryz.prog 186 #[.pointer (some ⟨t,0,none⟩),.int .i64 a] w fun e w'=>∃kv vv cv B F',e= .returned (.tuple #[.agg #[.bool n.leaf,kv,vv,cv],.int .i64 0])∧NodeAs w' (fun i=>B≤i) n kv vv cv∧PagerAt w' p F' S∧Keeps F F' w w'∧w.heap.size≤B∧∀i,F' i→i<B:=by
 have c0:(w.alloc (.cells #[.bool false,.slice none 0 0,.slice none 0 0,.slice none 0 0] 257)).cell? ⟨t,0,none⟩=some (.pointer (some ⟨p,0,none⟩)):=(Row1.alloc ht _).cell 0
 have hx0:Ext w (w.alloc (.cells #[.bool false,.slice none 0 0,.slice none 0 0,.slice none 0 0] 257)):=Ext.alloc _ _
 have cG:Hid (∀W,Ext w W→Calls Tryz.prog 226 #[.pointer (some ⟨p,0,none⟩),.int .i64 a] W fun e w'=>e= .returned (.tuple #[.string (bts (Z2e n++List.replicate (256-(Z2e n).length) 0)),.int .i64 0])∧∃F',PagerAt w' p F' S∧Keeps (fun i=>F i∧i<w.heap.size) F' W w'):=fun W hW=>by
  have h1:=V4a a W (h.shrink.ext hW) hp.given
  rw[hp.view,X9c _ hp.fits]at h1
  exact h1
 have cP:Hid (∀W,Calls Tryz.prog 227 #[.string (bts (Z2e n++List.replicate (256-(Z2e n).length) 0))] W fun e w'=>∃kv vv cv,e= .returned (.tuple #[.agg #[.bool n.leaf,kv,vv,cv],.int .i64 0])∧NodeAs w' (fun i=>W.heap.size≤i) n kv vv cv∧Ext W w'):=fun W=>X9a n _ W hp.ok (by have:=hp.fits;rw[List.length_replicate];omega)
 generalize bts (Z2e n++List.replicate (256-(Z2e n).length) 0)=s at cG cP
 have HR0:Hid (Row1 (w.alloc (.cells #[.bool false,.slice none 0 0,.slice none 0 0,.slice none 0 0] 257)) w.heap.size 257 [.bool false,.slice none 0 0,.slice none 0 0,.slice none 0 0]):=Row1.made w _ _
 have HX0:=hD hx0
 clear ht h hp hx0
 go_enter Tryz.func186,Tryz.ntmps186
 go_wp2_with (first
  | (go_at_call 226;(with_reducible refine(cG.out _ HX0.out).mono ?_);clear cG;rintro e w1 ⟨rfl,F1,hp1,k1⟩;have hzz:=k1.only.size;have HR1:=hD (k1.only.row HR0.out (fun q=>by have:=q.2;omega));have HP1:=hD hp1.shrink;have HK1:=hD (Keeps.shrink (P:=fun i=>i<w1.heap.size) k1);clear hp1 k1)
  | (go_at_call 227;(with_reducible refine(cP.out _).mono ?_);clear cP;rintro e w2 ⟨kv,vv,cv,rfl,hn2,hb2⟩;obtain⟨kA,kc,rfl⟩:=OwnL.form hn2.keys;obtain⟨vA,vc,rfl⟩:=OwnL.form hn2.vals;obtain⟨cA,cc,rfl⟩:=OwnL.form hn2.kids;have HN2:=hD hn2;have HB2:=hD hb2;have hR2:=HR1.out.ext hb2 HR1.out.lt;have z0:w2.cell? ⟨w.heap.size,0,none⟩=some (.bool false):=hR2.cell 0;have z1:w2.cell? ⟨w.heap.size,1,none⟩=some (.slice none 0 0):=hR2.cell 1;have z2:w2.cell? ⟨w.heap.size,2,none⟩=some (.slice none 0 0):=hR2.cell 2;have z3:w2.cell? ⟨w.heap.size,3,none⟩=some (.slice none 0 0):=hR2.cell 3;have f0:w2.frozen? ⟨w.heap.size,0,none⟩=false:=hR2.soft 0;have f1:w2.frozen? ⟨w.heap.size,1,none⟩=false:=hR2.soft 1;have f2:w2.frozen? ⟨w.heap.size,2,none⟩=false:=hR2.soft 2;have f3:w2.frozen? ⟨w.heap.size,3,none⟩=false:=hR2.soft 3;have HR2:=hD hR2;clear hn2 hb2 hR2))
 refine bodyPost_ret (X8q rfl _ _ w.heap.size n (.slice kA n.keys.length kc) (.slice vA n.vals.length vc) (.slice cA n.kids.length cc) _ rfl rfl ((((HR2.out.set 0 _).set 1 _).set 2 _).set 3 _)) rfl ?_
 have ho:=Y8x (w:=w2) w.heap.size (.bool n.leaf) (.slice kA n.keys.length kc) (.slice vA n.vals.length vc) (.slice cA n.kids.length cc)
 have hlt:w.heap.size<w1.heap.size:=HR1.out.lt
 refine⟨_,_,_,w1.heap.size,fun i=>F1 i∧i<w1.heap.size,rfl,HN2.out.only ho (fun i q q'=>by omega),(HP1.out.ext HB2.out).only ho (fun i q q'=> ?_),?_,by omega,fun i q=>q.2⟩
 ·rcases HK1.out.new i q with r | r
  ·have:=r.2;omega
  ·rw[World.size_alloc]at r;omega
 ·refine⟨?_,fun i q=> ?_⟩
  ·refine(((Only.of HX0.out).trans' (HK1.out.only.mono (fun i q=> .inl q.1))).ext HB2.out).trans (F':=fun i=>i=w.heap.size) ho (fun i q=> .inr (by omega))
  ·rcases HK1.out.new i q with r | r
   ·exact .inl r.1
   ·rw[World.size_alloc]at r;exact .inr (by omega)
def layP(S:StoreD)(a:Nat)(n:NodeD):StoreD:=putP S a (bts (Z2e n))
theorem X9y{t p i:Nat}{F:Nat→Prop}{S:StoreD}(a:Nat)(n:NodeD){kv vv cv:Value}(w:World)(ht:Z0b w t p i)(hnt:¬F t)(h:PagerAt w p F S)(hg:Z0r S a)(hn:NodeOk n)(hs:Z0m n≤256)(hv:NodeRd w n kv vv cv):
  Calls Tryz.prog 177 #[.pointer (some ⟨t,0,none⟩),.int .i64 a,.agg #[.bool n.leaf,kv,vv,cv]] w fun e w'=>e= .returned (.int .i64 0)∧∃F',PagerAt w' p F' (layP S a n)∧Keeps F F' w w':=by
 have hsz:(bts (Z2e n)).size≤256:=by rw[Z0h,Z6t n hn];exact hs
 obtain⟨kA,kc,rfl⟩:=hv.keys.form
 obtain⟨vA,vc,rfl⟩:=hv.vals.form
 obtain⟨cA,cc,rfl⟩:=hv.kids.form
 have cW:Hid (∀W,Ext w W→Calls Tryz.prog 217 #[.agg #[.bool n.leaf,.slice kA n.keys.length kc,.slice vA n.vals.length vc,.slice cA n.kids.length cc]] W fun e w'=>e= .returned (.string (bts (Z2e n)))∧Ext W w'):=fun W hW=>V2q W (hv.ext hW) hn
 have cS:Hid (∀W,Ext w W→Calls Tryz.prog 216 #[.pointer (some ⟨p,0,none⟩),.int .i64 a,.string (bts (Z2e n))] W fun e w'=>e= .returned (.int .i64 0)∧∃F',PagerAt w' p F' (layP S a n)∧Keeps (fun i=>F i∧i<w.heap.size) F' W w'):=fun W hW=>V3x a (bts (Z2e n)) W (h.shrink.ext hW) hg hsz
 generalize bts (Z2e n)=s at cW cS
 obtain⟨lf,hlf⟩:∃lf,n.leaf=lf:=⟨_,rfl⟩
 obtain⟨kn,hkn⟩:∃kn,n.keys.length=kn:=⟨_,rfl⟩
 obtain⟨vn,hvn⟩:∃vn,n.vals.length=vn:=⟨_,rfl⟩
 obtain⟨cn,hcn⟩:∃cn,n.kids.length=cn:=⟨_,rfl⟩
 rw[hlf,hkn,hvn,hcn]at cW ⊢
 have HKS:Hid (∀W,Only (fun i=>F i∧i<w.heap.size) (w.alloc (.cells #[.bool lf,.slice kA kn kc,.slice vA vn vc,.slice cA cn cc] 257)) W→W.cell? ⟨t,0,none⟩=some (.pointer (some ⟨p,0,none⟩))∧W.cell? ⟨w.heap.size,0,none⟩=some (.bool lf)∧W.cell? ⟨w.heap.size,1,none⟩=some (.slice kA kn kc)∧W.cell? ⟨w.heap.size,2,none⟩=some (.slice vA vn vc)∧W.cell? ⟨w.heap.size,3,none⟩=some (.slice cA cn cc)):=fun W hW=>by
  have hr:=hW.row (Row1.made w 257 [.bool lf,.slice kA kn kc,.slice vA vn vc,.slice cA cn cc]) (fun q=>by have:=q.2;omega)
  have h1:Z0b W t p i:=hW.row (Row1.alloc ht _) (fun q=>hnt q.1)
  exact⟨h1.cell 0,hr.cell 0,hr.cell 1,hr.cell 2,hr.cell 3⟩
 clear ht h hg hn hs hv hsz hlf hkn hvn hcn
 go_enter Tryz.func177,Tryz.ntmps177
 go_upto_region 1 with fail
 refine wp_region_held_drew (S:=fun W=>W.cell? ⟨t,0,none⟩=some (.pointer (some ⟨p,0,none⟩))∧W.cell? ⟨w.heap.size,0,none⟩=some (.bool lf)∧W.cell? ⟨w.heap.size,1,none⟩=some (.slice kA kn kc)∧W.cell? ⟨w.heap.size,2,none⟩=some (.slice vA vn vc)∧W.cell? ⟨w.heap.size,3,none⟩=some (.slice cA cn cc)) (by kernel_rfl) (HKS.out _ (Only.of (by exact Xt))) (fun hHeld=> ?_)
 refine' tk 0 ?_
 refine' tk 1 ?_
 refine' tk 2 ?_
 refine' tk 3 ?_
 refine' tk 4 ?_
 refine' tk 5 ?_
 refine stp 6 (fun K hK=> ?_);go_simp
 (with_reducible refine(cW.out _ ?_).mono ?_)
 ·exact Xt
 rintro e w1 ⟨rfl,hb1⟩
 have HB1:Hid (Ext (w.alloc (.cells #[.bool lf,.slice kA kn kc,.slice vA vn vc,.slice cA cn cc] 257)) w1):=Ext.trans (by exact Xt) hb1
 clear hb1
 (try dsimp only)
 (try go_simp)
 refine hK.out _ _ (HKS.out _ (Only.of HB1.out)) (fun hHeld=> ?_)
 clear hK K
 refine pt ?_
 refine stp 7 (fun K hK=> ?_);go_simp
 (with_reducible refine(cS.out _ (Ext.trans (Ext.alloc _ _) HB1.out)).mono ?_)
 rintro e w2 ⟨rfl,F2,hp2,hk2⟩
 have HP2:=hD hp2
 have HB2:Hid (Only (fun i=>F i∧i<w.heap.size) (w.alloc (.cells #[.bool lf,.slice kA kn kc,.slice vA vn vc,.slice cA cn cc] 257)) w2):=(Only.of HB1.out).trans' hk2.only
 have HK2:Hid (Keeps F F2 w w2):=Keeps.widen (Keeps.trans (Keeps.of (Ext.trans (Ext.alloc _ _) HB1.out)) hk2) (fun i q=>q.1)
 clear hp2 hk2
 (try dsimp only)
 (try go_simp)
 refine hK.out _ _ (HKS.out _ HB2.out) (fun hHeld=> ?_)
 clear hK K
 refine pt ?_
 refine' tk 8 ?_
 refine wpAnyH_done (by kernel_rfl) ?_ _
 go_wp2_with fail
 go_ret
 exact⟨rfl,F2,HP2.out,HK2.out⟩
theorem Y0k{t p i:Nat}{F G:Nat→Prop}{S:StoreD}(a:Nat)(n:NodeD){kv vv cv:Value}(w:World)(ht:Z0b w t p i)(hnt:¬F t)(h:PagerAt w p F S)(hg:Z0r S a)(hn:NodeOk n)(hs:Z0m n≤256)(hv:NodeAs w G n kv vv cv):
  Calls Tryz.prog 177 #[.pointer (some ⟨t,0,none⟩),.int .i64 a,.agg #[.bool n.leaf,kv,vv,cv]] w fun e w'=>e= .returned (.int .i64 0)∧∃F',PagerAt w' p F' (layP S a n)∧Keeps F F' w w':=X9y a n w ht hnt h hg hn hs hv.rd
def Z0g(ks:List ByteArray)(k:ByteArray):Nat:=posB ks k+if hasB ks k=true then 1 else 0
theorem Y1z{n:NodeD}{G:Nat→Prop}{kv vv cv:Value}(k:ByteArray)(w:World)(hv:NodeAs w G n kv vv cv)(hr:Z3c n.keys)(hn:n.keys.length≤1000000):
  Calls Tryz.prog 188 #[.agg #[.bool n.leaf,kv,vv,cv],.string k] w fun e w'=>e= .returned (.int .i64 (Z0g n.keys k))∧Ext w w':=by
 obtain⟨kA,kc,rfl⟩:=OwnL.form hv.keys
 obtain⟨vA,vc,rfl⟩:=OwnL.form hv.vals
 obtain⟨cA,cc,rfl⟩:=OwnL.form hv.kids
 have cB:Hid (∀W,Ext w W→Calls Tryz.prog 189 #[.slice kA n.keys.length kc,.string k] W fun e w'=>e= .returned (.tuple #[.int .i64 (posB n.keys k),.bool (hasB n.keys k)])∧W=w'):=fun W hW=>Z4g k W (hv.keys.ext hW) hr (by omega)
 have hp:=Y0d n.keys k
 have HD:Hid (Z0g n.keys k=posB n.keys k+if hasB n.keys k=true then 1 else 0):=rfl
 generalize posB n.keys k=pp at *
 generalize hasB n.keys k=hb at *
 obtain⟨kn,hkn⟩:∃kn,n.keys.length=kn:=⟨_,rfl⟩
 rw[hkn]at cB hp hn ⊢
 clear hv hr hkn
 cases hb
 ·go_enter Tryz.func188,Tryz.ntmps188
  go_wp2_with (go_at_call 189;(with_reducible refine(cB.out _ (Ext.alloc _ _)).mono ?_);clear cB;rintro e w1 ⟨rfl,rfl⟩)
  go_ret
  exact⟨by rw[HD.out];simp,Ext.alloc _ _⟩
 ·go_enter Tryz.func188,Tryz.ntmps188
  go_wp2_with (go_at_call 189;(with_reducible refine(cB.out _ (Ext.alloc _ _)).mono ?_);clear cB;rintro e w1 ⟨rfl,rfl⟩)
  go_ret
  exact⟨by rw[HD.out];simp,Ext.alloc _ _⟩
theorem Z3t{t p i:Nat}{F:Nat→Prop}{S:StoreD}(w:World)(ht:Z0b w t p i)(hnt:¬F t)(h:PagerAt w p F S)(hi:i<16):
  Calls Tryz.prog 132 #[.pointer (some ⟨t,0,none⟩)] w fun e w'=>e= .returned (.tuple #[.int .i64 (Z1s S i),.int .i64 0])∧∃F',PagerAt w' p F' S∧Keeps F F' w w':=by
 have c0:w.cell? ⟨t,0,none⟩=some (.pointer (some ⟨p,0,none⟩)):=ht.cell 0
 have c1:w.cell? ⟨t,1,none⟩=some (.int .i64 i):=ht.cell 1
 have cR:Hid (∀W,Ext w W→Calls Tryz.prog 170 #[.pointer (some ⟨p,0,none⟩),.int .i64 i] W fun e w'=>e= .returned (.tuple #[.int .i64 (Z1s S i),.int .i64 0])∧∃F',PagerAt w' p F' S∧Keeps F F' W w'):=fun W hW=>Y6n i W (h.ext hW) hi
 have HKS:Hid (∀W,Only F w W→W.cell? ⟨t,0,none⟩=some (.pointer (some ⟨p,0,none⟩))∧W.cell? ⟨t,1,none⟩=some (.int .i64 i)):=fun W hW=>⟨(hW.row ht hnt).cell 0,(hW.row ht hnt).cell 1⟩
 clear ht h
 go_enter Tryz.func132,Tryz.ntmps132
 go_upto_region 3 with fail
 refine wp_region_held_drew (S:=fun W=>W.cell? ⟨t,0,none⟩=some (.pointer (some ⟨p,0,none⟩))∧W.cell? ⟨t,1,none⟩=some (.int .i64 i)) (by kernel_rfl) (HKS.out _ (Only.of (by exact Xt))) (fun hHeld=> ?_)
 refine' tk 0 ?_
 refine' tk 1 ?_
 refine' tk 2 ?_
 refine' tk 3 ?_
 refine' tk 4 ?_
 refine' tk 5 ?_
 refine' tk 6 ?_
 refine' tk 7 ?_
 refine stp 8 (fun K hK=> ?_);go_simp
 (with_reducible refine(cR.out _ ?_).mono ?_)
 ·exact Xt
 rintro e w1 ⟨rfl,F1,hp1,hk1⟩
 have HB:Hid (Only F w w1):=(Only.of (by exact Xt)).trans' hk1.only
 have HP1:=hD hp1
 have HK1:Hid (Keeps F F1 w w1):=Keeps.trans (Keeps.of (by exact Xt)) hk1
 clear hp1 hk1
 (try dsimp only)
 (try go_simp)
 refine hK.out _ _ (HKS.out _ HB.out) (fun hHeld=> ?_)
 clear hK K
 refine pt ?_
 refine' tk 9 ?_
 refine' tk 10 ?_
 refine' tk 11 ?_
 refine' tk 12 ?_
 refine wpAnyH_done (by kernel_rfl) ?_ _
 go_wp2_with fail
 go_ret2
 exact⟨rfl,F1,HP1.out,HK1.out⟩
theorem V6j{t p i:Nat}{F G:Nat→Prop}{S:StoreD}(a:Nat)(n:NodeD){kv vv cv:Value}(w:World)(ht:Z0b w t p i)(hnt:¬F t)(h:PagerAt w p F S)(hg:Z0r S a)(hn:NodeOk n)(hf:Fair n)(hs:Z0m n≤256)(hv:NodeAs w G n kv vv cv):
  Calls Tryz.prog 221 #[.pointer (some ⟨t,0,none⟩),.int .i64 a,.agg #[.bool n.leaf,kv,vv,cv]] w fun e w'=>e= .returned (.tuple #[.string ⟨#[]⟩,.int .i64 0,.int .i64 0])∧∃F',PagerAt w' p F' (layP S a n)∧Keeps F F' w w':=by
 obtain⟨kA,kc,rfl⟩:=OwnL.form hv.keys
 obtain⟨vA,vc,rfl⟩:=OwnL.form hv.vals
 obtain⟨cA,cc,rfl⟩:=OwnL.form hv.kids
 have cZ:Hid (∀W,Ext w W→Calls Tryz.prog 265 #[.agg #[.bool n.leaf,.slice kA n.keys.length kc,.slice vA n.vals.length vc,.slice cA n.kids.length cc]] W fun e w'=>e= .returned (.int .i64 (Z0m n))∧Ext W w'):=fun W hW=>Y6j W (hv.ext hW) hf
 have cL:Hid (∀W,Ext w W→Calls Tryz.prog 177 #[.pointer (some ⟨t,0,none⟩),.int .i64 a,.agg #[.bool n.leaf,.slice kA n.keys.length kc,.slice vA n.vals.length vc,.slice cA n.kids.length cc]] W fun e w'=>e= .returned (.int .i64 0)∧∃F',PagerAt w' p F' (layP S a n)∧Keeps F F' W w'):=fun W hW=>Y0k a n W (ht.ext hW ht.lt) hnt (h.ext hW) hg hn hs (hv.ext hW)
 have T1:decide ((Z0m n:Int)≤256)=true:=decide_eq_true (by omega)
 generalize Z0m n=sz at *
 obtain⟨lf,hlf⟩:∃lf,n.leaf=lf:=⟨_,rfl⟩
 obtain⟨kn,hkn⟩:∃kn,n.keys.length=kn:=⟨_,rfl⟩
 obtain⟨vn,hvn⟩:∃vn,n.vals.length=vn:=⟨_,rfl⟩
 obtain⟨cn,hcn⟩:∃cn,n.kids.length=cn:=⟨_,rfl⟩
 rw[hlf,hkn,hvn,hcn]at cZ cL ⊢
 obtain⟨w0,hw0⟩:∃w0,w.alloc (.cells #[.bool lf,.slice kA kn kc,.slice vA vn vc,.slice cA cn cc] 257)=w0:=⟨_,rfl⟩
 have hx0:Ext w w0:=hw0▸Ext.alloc _ _
 have hr0:Row1 w0 w.heap.size 257 [.bool lf,.slice kA kn kc,.slice vA vn vc,.slice cA cn cc]:=hw0▸Row1.made w _ _
 have c0:w0.cell? ⟨w.heap.size,0,none⟩=some (.bool lf):=hr0.cell 0
 have c1:w0.cell? ⟨w.heap.size,1,none⟩=some (.slice kA kn kc):=hr0.cell 1
 have c2:w0.cell? ⟨w.heap.size,2,none⟩=some (.slice vA vn vc):=hr0.cell 2
 have c3:w0.cell? ⟨w.heap.size,3,none⟩=some (.slice cA cn cc):=hr0.cell 3
 have HR:=hD hr0
 have HX:=hD hx0
 clear ht h hg hn hs hv hlf hkn hvn hcn hr0 hx0 hf
 go_enter Tryz.func221,Tryz.ntmps221
 go_wp2_with (first
  | (go_at_call 265;(with_reducible refine(cZ.out _ HX.out).mono ?_);clear cZ;rintro e w1 ⟨rfl,hx1⟩;have hr1:=HR.out.ext hx1 HR.out.lt;have d0:w1.cell? ⟨w.heap.size,0,none⟩=some (.bool lf):=hr1.cell 0;have d1:w1.cell? ⟨w.heap.size,1,none⟩=some (.slice kA kn kc):=hr1.cell 1;have d2:w1.cell? ⟨w.heap.size,2,none⟩=some (.slice vA vn vc):=hr1.cell 2;have d3:w1.cell? ⟨w.heap.size,3,none⟩=some (.slice cA cn cc):=hr1.cell 3;have HX1:=hD (Ext.trans HX.out hx1);clear hr1 hx1)
  | (go_at_call 177;(with_reducible refine(cL.out _ HX1.out).mono ?_);clear cL;rintro e w2 ⟨rfl,F2,hp2,hk2⟩;have HP2:=hD hp2;have HK2:=hD hk2;clear hp2 hk2))
 go_ret3
 exact⟨rfl,F2,HP2.out,Keeps.trans (Keeps.of HX1.out) HK2.out⟩
end Go.Proofs.YtmiolpfanlpfnaaGreat
