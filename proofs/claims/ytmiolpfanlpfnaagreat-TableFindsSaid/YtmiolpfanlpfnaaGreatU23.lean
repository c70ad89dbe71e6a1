/- A node is written. Conditions: a node that a page holds. -/
import Derived.Test.YtmiolpfanlpfnaaGreatU22
set_option maxRecDepth 100000
set_option maxHeartbeats 4000000
set_option linter.unusedSimpArgs false
set_option linter.unusedVariables false
namespace Go.Proofs.YtmiolpfanlpfnaaGreat
open Go.RowKit
def BW(w wr:World)(cs:List Value)(l:List UInt8):Prop:=
 ∃F:Nat→Prop,BldAt wr (w.heap.size+1) F l∧(∀i,F i→w.heap.size+1≤i)∧Ext w wr∧Row1 wr w.heap.size 257 cs
theorem BW.step{w wr w':World}{cs:List Value}{l':List UInt8}{F F':Nat→Prop}(hF:∀i,F i→w.heap.size+1≤i)(hx:Ext w wr)(hr:Row1 wr w.heap.size 257 cs)(hb:BldAt w' (w.heap.size+1) F' l')(hk:Keeps F F' wr w'):BW w w' cs l':=by
 refine⟨F',hb,fun i q=> ?_,?_,hk.only.row hr (fun q=>by have:=hF _ q;omega)⟩
 ·rcases hk.new i q with q | q
  ·exact hF i q
  ·have:=hr.lt;omega
 ·refine Only.toExt (F:=fun i=>w.heap.size≤i) ?_ (fun i q=>q)
  exact(Only.of hx).trans' (hk.only.mono (fun i q=> .inl (by have:=hF i q;omega)))
theorem V8m{w W:World}{cs:List Value}{l:List UInt8}(m:Nat)(hm:m<256)(h:BW w W cs l)(hl:l.length≤1000000):
  Calls Tryz.prog 261 #[.pointer (some ⟨w.heap.size+1,0,none⟩),.int .u8 (m:Int)] W fun e w'=>e= .returned .nilIface∧BW w w' cs (l++ [UInt8.ofNat m]):=by
 obtain⟨F,h1,h2,h3,h4⟩:=h
 have hc:=X2l (UInt8.ofNat m) h1 (by omega)
 rw[UInt8.toNat_ofNat_of_lt' hm]at hc
 refine hc.mono ?_
 rintro e w' ⟨rfl,F',q1,q2⟩
 exact⟨rfl,BW.step h2 h3 h4 q1 q2⟩
theorem X4y{w W:World}{cs:List Value}{l:List UInt8}(s:ByteArray)(hs:s.size≤1000)(h:BW w W cs l)(hl:l.length≤1000000):
  Calls Tryz.prog 172 #[.pointer (some ⟨w.heap.size+1,0,none⟩),.string s] W fun e w'=>e= .returned (.tuple #[.int .i64 s.size,.nilIface])∧BW w w' cs (l++s.data.toList):=by
 obtain⟨F,h1,h2,h3,h4⟩:=h
 refine(Z6c s h1 (by omega)).mono ?_
 rintro e w' ⟨rfl,F',q1,q2⟩
 exact⟨rfl,BW.step h2 h3 h4 q1 q2⟩
theorem V8l{w W:World}{cs:List Value}{l:List UInt8}(h:BW w W cs l)(h0:l≠ []):
  Calls Tryz.prog 175 #[.pointer (some ⟨w.heap.size+1,0,none⟩)] W fun e w'=>e= .returned (.string (bts l))∧Ext w w':=by
 obtain⟨F,h1,h2,h3,h4⟩:=h
 refine(Z8s h1 h0).mono ?_
 rintro e w' ⟨rfl,q2⟩
 refine⟨rfl,Only.toExt (F:=fun i=>w.heap.size≤i) ?_ (fun i q=>q)⟩
 exact(Only.of h3).trans' (q2.mono (fun i q=> .inl (by have:=h2 i q;omega)))
def preL(n:NodeD)(i:Nat):List UInt8:=(if n.leaf=true then 1 else 2)::UInt8.ofNat n.keys.length::((List.range' 0 i).flatMap (entL n))
theorem Y3c(n:NodeD)(i:Nat):preL n (i+1)=preL n i++entL n i:=by
 unfold preL
 rw[List.range'_1_concat,List.flatMap_append]
 simp
theorem X3s(n:NodeD):preL n n.keys.length++Z5m n 0=Z2h n:=by
 unfold preL Z2h Z2n
 rw[Nat.sub_zero]
 rfl
def preK(n:NodeD)(j:Nat):List UInt8:=preL n n.keys.length++(n.kids.take j).flatMap kidL
theorem X9w(n:NodeD){j:Nat}(h:j<n.kids.length):preK n (j+1)=preK n j++kidL n.kids[j]:=by
 unfold preK
 rw[Y5i _ _ h,List.flatMap_append,List.append_assoc]
 simp
theorem V5f(n:NodeD):preK n n.kids.length=Z2h n:=by
 unfold preK
 rw[List.take_length,←X3s]
 rfl
theorem Y2c(n:NodeD)(hn:NodeOk n):∀i,i≤n.keys.length→(preL n i).length≤2+600*i
 | 0,_=>by simp[preL]
 | i+1,h=>by
   have ih:=Y2c n hn i (by omega)
   rw[Y3c,List.length_append]
   have h1:(entL n i).length≤600:=by
    unfold entL
    rw[List.length_append,Z7u,List.getElem?_eq_getElem (by omega:i<n.keys.length)]
    have h2:=hn.keys _ (List.getElem_mem (show i<n.keys.length by omega))
    simp only[Option.getD_some]
    split
    ·rw[Z7u]
     have h3:(n.vals[i]?.getD ByteArray.empty).size≤255:=by
      cases hv:n.vals[i]? with
      | none=>simp
      | some v=>exact hn.vals v (List.mem_of_getElem? hv)
     omega
    ·simp;omega
   omega
theorem V5e(n:NodeD)(hn:NodeOk n)(j:Nat):(preK n j).length≤200000+2*n.kids.length:=by
 have h:∀l:List Int,(l.flatMap kidL).length=2*l.length:=fun l=>by
  induction l with
  | nil=>rfl
  | cons c r ih=>rw[List.flatMap_cons,List.length_append,ih,List.length_cons];show 2+_=_;omega
 unfold preK
 rw[List.length_append,h,List.length_take]
 have h1:=Y2c n hn n.keys.length (Nat.le_refl _)
 have:=hn.many
 omega
theorem X5g{n:NodeD}{kv vv cv:Value}(w:World)(h:NodeRd w n kv vv cv)(hn:NodeOk n)(hl:n.leaf=true):
  Calls Tryz.prog 217 #[.agg #[.bool n.leaf,kv,vv,cv]] w fun e w'=>e= .returned (.string (bts (Z2h n)))∧Ext w w':=by
 obtain⟨hvl,hkids⟩:=hn.leafs hl
 obtain⟨kA,kc,rfl,_,_,hkx⟩:=Z3s h.keys
 obtain⟨vA,vc,rfl,_,_,hvx⟩:=Z3s h.vals
 obtain⟨cA,cc,rfl,_,_,_⟩:=Z9c h.kids
 have HKX:=hD hkx
 have HVX:=hD hvx
 obtain⟨K,hK⟩:∃K,n.keys.length=K:=⟨_,rfl⟩
 have HK:=hD hK
 have HV:Hid (n.vals.length=K):=by unfold Hid;omega
 have HE:Hid (preL n K=Z2h n):=by
  unfold Hid
  rw[←hK]
  have:=X3s n
  rwa [show Z5m n 0= []by unfold Z5m;rw[hkids];rfl,List.append_nil]at this
 have hK255:K≤255:=by rw[←hK];exact hn.many
 have HPL:Hid (∀i,i≤K→(preL n i).length≤200000):=fun i hi=>by have:=Y2c n hn i (by omega);omega
 rw[hK,show n.vals.length=K from HV.out,show n.kids.length=0 by rw[hkids];rfl,hl]
 have HN:=hD hn
 have HL:=hD hl
 have HP0:Hid (preL n 0= [1,UInt8.ofNat K]):=by unfold Hid preL;rw[if_pos hl,hK];rfl
 have cB:Hid (∀(m:Nat) (l:List UInt8) W,m<256→BW w W [.bool true,.slice kA K kc,.slice vA K vc,.slice cA 0 cc] l→l.length≤1000000→Calls Tryz.prog 261 #[.pointer (some ⟨w.heap.size+1,0,none⟩),.int .u8 (m:Int)] W fun e w'=>e= .returned .nilIface∧BW w w' [.bool true,.slice kA K kc,.slice vA K vc,.slice cA 0 cc] (l++ [UInt8.ofNat m])):=fun m l W hm hb hl=>V8m m hm hb hl
 have cS:Hid (∀(s:ByteArray) (l:List UInt8) W,s.size≤1000→BW w W [.bool true,.slice kA K kc,.slice vA K vc,.slice cA 0 cc] l→l.length≤1000000→Calls Tryz.prog 172 #[.pointer (some ⟨w.heap.size+1,0,none⟩),.string s] W fun e w'=>e= .returned (.tuple #[.int .i64 s.size,.nilIface])∧BW w w' [.bool true,.slice kA K kc,.slice vA K vc,.slice cA 0 cc] (l++s.data.toList)):=fun s l W hs hb hl=>X4y s hs hb hl
 have cT:Hid (∀(l:List UInt8) W,BW w W [.bool true,.slice kA K kc,.slice vA K vc,.slice cA 0 cc] l→l≠ []→Calls Tryz.prog 175 #[.pointer (some ⟨w.heap.size+1,0,none⟩)] W fun e w'=>e= .returned (.string (bts l))∧Ext w w'):=fun l W hb h0=>V8l hb h0
 have HB0:Hid (BW w ((w.alloc (.cells #[.bool true,.slice kA K kc,.slice vA K vc,.slice cA 0 cc] 257)).alloc (.cells #[.pointer none,.slice none 0 0] 248)) [.bool true,.slice kA K kc,.slice vA K vc,.slice cA 0 cc] []):=by
  refine⟨fun i=>i=w.heap.size+1,?_,fun i q=>by omega,by exact Xt,(Row1.made w _ _).alloc _⟩
  have:=BldAt.made (w.alloc (.cells #[.bool true,.slice kA K kc,.slice vA K vc,.slice cA 0 cc] 257))
  rwa [World.size_alloc]at this
 have HCE:Hid (∀W l,BW w W [.bool true,.slice kA K kc,.slice vA K vc,.slice cA 0 cc] l→Hid (Ext w W)∧W.cell? ⟨w.heap.size,0,none⟩=some (.bool true)∧W.cell? ⟨w.heap.size,1,none⟩=some (.slice kA K kc)∧W.cell? ⟨w.heap.size,2,none⟩=some (.slice vA K vc)∧W.cell? ⟨w.heap.size,3,none⟩=some (.slice cA 0 cc)):=fun W l ⟨F,_,_,hx,hr⟩=>⟨hx,hr.cell 0,hr.cell 1,hr.cell 2,hr.cell 3⟩
 have u1:IntKind.u8.wrap (K:Int)=K:=by rw[IntKind.wrap_u8];omega
 have q31:(1:Nat)<256:=by omega
 have cB1:Calls Tryz.prog 261 #[.pointer (some ⟨w.heap.size+1,0,none⟩),.int .u8 1] _ fun e w'=>e= .returned .nilIface∧BW w w' [.bool true,.slice kA K kc,.slice vA K vc,.slice cA 0 cc] [1]:=cB.out 1 [] _ q31 HB0.out (by simp)
 clear h hkx hvx hn hl hvl hkids hK
 go_enter Tryz.func217,Tryz.ntmps217
 go_wp2_with (first
  | (go_at_call 261;(with_reducible refine cB1.mono ?_);clear cB1;rintro e w1 ⟨rfl,hb1⟩;obtain⟨HX1,d0,d1,d2,d3⟩:=HCE.out _ _ hb1;have cB2:=cB.out K _ _ (by omega) hb1 (by simp);clear hb1)
  | (go_at_call 261;(with_reducible refine cB2.mono ?_);clear cB2;rintro e w2 ⟨rfl,hb2⟩;obtain⟨HX2,e0,e1,e2,e3⟩:=HCE.out _ _ hb2;have HB2:=hD hb2;clear hb2))
 have HB2:Hid (BW w w2 [.bool true,.slice kA K kc,.slice vA K vc,.slice cA 0 cc] (preL n 0)):=by rw[HP0.out];exact HB2.out
 clear d0 d1 d2 d3 e0 e1 e2 e3
 go_loopw [21] (fun i wr=>∃k:Nat,k≤K∧i= .int .i64 k∧BW w wr [.bool true,.slice kA K kc,.slice vA K vc,.slice cA 0 cc] (preL n k)) (fun i _=>K-(intOf i).toNat)
 case atStart=>exact⟨0,by omega,rfl,HB2.out⟩
 case round=>
  obtain⟨k,hk,rfl,hbw⟩:=hrel
  have HBW:=hD hbw
  obtain⟨HXW,r0,r1,r2,r3⟩:=HCE.out _ _ hbw
  clear hbw
  by_cases hkl:k<K
  ·have q1:decide ((k:Int)<K)=true:=decide_eq_true (by omega)
   have q1':decide (k<K)=true:=decide_eq_true hkl
   have hkk:k<n.keys.length:=by rw[HK.out];exact hkl
   have hkv:k<n.vals.length:=by rw[HV.out];exact hkl
   obtain⟨kb,ko,rfl,hkb,hkc⟩:=HKX.out (by omega)
   obtain⟨vb,vo,rfl,hvb,hvc⟩:=HVX.out (by omega)
   have HCK:=hD (hkc k hkk)
   have HCV:=hD (hvc k hkv)
   have hk1:=HN.out.keys _ (List.getElem_mem hkk)
   have hv1:=HN.out.vals _ (List.getElem_mem hkv)
   have HST:Hid (preL n (k+1)=preL n k++ [UInt8.ofNat n.keys[k].size]++n.keys[k].data.toList++ [UInt8.ofNat n.vals[k].size]++n.vals[k].data.toList):=by
    unfold Hid
    rw[Y3c]
    unfold entL
    rw[if_pos HL.out,List.getElem?_eq_getElem hkk,List.getElem?_eq_getElem hkv]
    simp[lenL]
   obtain⟨x,hx⟩:∃x,n.keys[k]=x:=⟨_,rfl⟩
   obtain⟨y,hy⟩:∃y,n.vals[k]=y:=⟨_,rfl⟩
   rw[hx]at HCK hk1 HST
   rw[hy]at HCV hv1 HST
   have hpl:=HPL.out k hk
   have c0:wr.cell? ⟨kb,ko+k,none⟩=some (.string x):=(HXW.out.cell (p:=⟨kb,ko+k,none⟩) hkb).trans HCK.out
   have x1:IntKind.u8.wrap (x.size:Int)=x.size:=by rw[IntKind.wrap_u8];omega
   have y1:IntKind.u8.wrap (y.size:Int)=y.size:=by rw[IntKind.wrap_u8];omega
   have hxl:x.data.toList.length=x.size:=by rw[Array.length_toList];rfl
   have cA1:=cB.out x.size _ _ (by omega) HBW.out (by omega)
   have HXL:=hD hxl
   clear hx hy hkc hvc hxl
   go_wp2_with (first
    | (go_at_call 261;(with_reducible refine cA1.mono ?_);clear cA1;rintro e w3 ⟨rfl,hb3⟩;obtain⟨HX3,s0,s1,s2,s3⟩:=HCE.out _ _ hb3;have cA2:=cS.out x _ _ (by omega) hb3 (by rw[List.length_append];simp;omega);clear hb3)
    | (go_at_call 172;(with_reducible refine cA2.mono ?_);clear cA2;rintro e w4 ⟨rfl,hb4⟩;obtain⟨HX4,t0,t1,t2,t3⟩:=HCE.out _ _ hb4;have g0:w4.cell? ⟨vb,vo+k,none⟩=some (.string y):=(HX4.out.cell (p:=⟨vb,vo+k,none⟩) hvb).trans HCV.out;have cA3:=cB.out y.size _ _ (by omega) hb4 (by rw[List.length_append,List.length_append,HXL.out];simp;omega);clear hb4)
    | (go_at_call 261;(with_reducible refine cA3.mono ?_);clear cA3;rintro e w5 ⟨rfl,hb5⟩;obtain⟨HX5,v0,v1,v2,v3⟩:=HCE.out _ _ hb5;have i0:w5.cell? ⟨vb,vo+k,none⟩=some (.string y):=(HX5.out.cell (p:=⟨vb,vo+k,none⟩) hvb).trans HCV.out;have cA4:=cS.out y _ _ (by omega) hb5 (by rw[List.length_append,List.length_append,List.length_append,HXL.out];simp;omega);clear hb5)
    | (go_at_call 172;(with_reducible refine cA4.mono ?_);clear cA4;rintro e w6 ⟨rfl,hb6⟩;have HB6:=hD hb6;clear hb6))
   go_roundw
   case rel=>exact⟨k+1,by omega,by go_num,by rw[HST.out];exact HB6.out⟩
   case measure=>simp[intOf];omega
  ·obtain rfl:k=K:=by omega
   have q1:decide ((k:Int)<k)=false:=decide_eq_false (by omega)
   have hne:preL n k≠ []:=by unfold preL;simp
   have cTT:=cT.out _ _ HBW.out hne
   rw[HE.out]at cTT
   have HTT:=hD cTT
   clear cTT hne
   go_wp2_with fail
   go_loop [52] (fun i=>i= .int .i64 0) (fun _=>0)
   case atStart=>rfl
   case round=>
    subst hrel
    go_wp2_with (go_at_call 175;(with_reducible refine HTT.out.mono ?_);rintro e w7 ⟨rfl,hb7⟩)
    go_ret
    exact⟨rfl,hb7⟩
theorem X0w{n:NodeD}{kv vv cv:Value}(w:World)(h:NodeRd w n kv vv cv)(hn:NodeOk n)(hl:n.leaf=false):
  Calls Tryz.prog 217 #[.agg #[.bool n.leaf,kv,vv,cv]] w fun e w'=>e= .returned (.string (bts (Z2h n)))∧Ext w w':=by
 obtain⟨hvl,hkids⟩:=hn.inner hl
 obtain⟨kA,kc,rfl,_,_,hkx⟩:=Z3s h.keys
 obtain⟨vA,vc,rfl,_,_,hvx⟩:=Z3s h.vals
 obtain⟨cA,cc,rfl,_,_,hcx⟩:=Z9c h.kids
 have HCX:=hD hcx
 have HKX:=hD hkx
 have HVX:=hD hvx
 obtain⟨K,hK⟩:∃K,n.keys.length=K:=⟨_,rfl⟩
 have HK:=hD hK
 have HC:Hid (n.kids.length=K+1):=by unfold Hid;omega
 have HE:Hid (preK n (K+1)=Z2h n):=by unfold Hid;rw[←HC.out];exact V5f n
 have hK255:K≤255:=by rw[←hK];exact hn.many
 have HPL:Hid (∀i,i≤K→(preL n i).length≤200000):=fun i hi=>by have:=Y2c n hn i (by omega);omega
 have HPK:Hid (∀j,(preK n j).length≤210000):=fun j=>by have:=V5e n hn j;rw[HC.out]at this;omega
 have HPE:Hid (preK n 0=preL n K):=by unfold Hid preK;rw[hK];simp
 rw[hK,show n.vals.length=0 by rw[hvl];rfl,HC.out,hl]
 have HN:=hD hn
 have HL:=hD hl
 have HP0:Hid (preL n 0= [2,UInt8.ofNat K]):=by unfold Hid preL;rw[if_neg (by rw[hl];simp),hK];rfl
 have cB:Hid (∀(m:Nat) (l:List UInt8) W,m<256→BW w W [.bool false,.slice kA K kc,.slice vA 0 vc,.slice cA (K+1) cc] l→l.length≤1000000→Calls Tryz.prog 261 #[.pointer (some ⟨w.heap.size+1,0,none⟩),.int .u8 (m:Int)] W fun e w'=>e= .returned .nilIface∧BW w w' [.bool false,.slice kA K kc,.slice vA 0 vc,.slice cA (K+1) cc] (l++ [UInt8.ofNat m])):=fun m l W hm hb hl=>V8m m hm hb hl
 have cS:Hid (∀(s:ByteArray) (l:List UInt8) W,s.size≤1000→BW w W [.bool false,.slice kA K kc,.slice vA 0 vc,.slice cA (K+1) cc] l→l.length≤1000000→Calls Tryz.prog 172 #[.pointer (some ⟨w.heap.size+1,0,none⟩),.string s] W fun e w'=>e= .returned (.tuple #[.int .i64 s.size,.nilIface])∧BW w w' [.bool false,.slice kA K kc,.slice vA 0 vc,.slice cA (K+1) cc] (l++s.data.toList)):=fun s l W hs hb hl=>X4y s hs hb hl
 have cT:Hid (∀(l:List UInt8) W,BW w W [.bool false,.slice kA K kc,.slice vA 0 vc,.slice cA (K+1) cc] l→l≠ []→Calls Tryz.prog 175 #[.pointer (some ⟨w.heap.size+1,0,none⟩)] W fun e w'=>e= .returned (.string (bts l))∧Ext w w'):=fun l W hb h0=>V8l hb h0
 have HB0:Hid (BW w ((w.alloc (.cells #[.bool false,.slice kA K kc,.slice vA 0 vc,.slice cA (K+1) cc] 257)).alloc (.cells #[.pointer none,.slice none 0 0] 248)) [.bool false,.slice kA K kc,.slice vA 0 vc,.slice cA (K+1) cc] []):=by
  refine⟨fun i=>i=w.heap.size+1,?_,fun i q=>by omega,by exact Xt,(Row1.made w _ _).alloc _⟩
  have:=BldAt.made (w.alloc (.cells #[.bool false,.slice kA K kc,.slice vA 0 vc,.slice cA (K+1) cc] 257))
  rwa [World.size_alloc]at this
 have HCE:Hid (∀W l,BW w W [.bool false,.slice kA K kc,.slice vA 0 vc,.slice cA (K+1) cc] l→Hid (Ext w W)∧W.cell? ⟨w.heap.size,0,none⟩=some (.bool false)∧W.cell? ⟨w.heap.size,1,none⟩=some (.slice kA K kc)∧W.cell? ⟨w.heap.size,2,none⟩=some (.slice vA 0 vc)∧W.cell? ⟨w.heap.size,3,none⟩=some (.slice cA (K+1) cc)):=fun W l ⟨F,_,_,hx,hr⟩=>⟨hx,hr.cell 0,hr.cell 1,hr.cell 2,hr.cell 3⟩
 have u1:IntKind.u8.wrap (K:Int)=K:=by rw[IntKind.wrap_u8];omega
 have q31:(2:Nat)<256:=by omega
 have cB1:Calls Tryz.prog 261 #[.pointer (some ⟨w.heap.size+1,0,none⟩),.int .u8 2] _ fun e w'=>e= .returned .nilIface∧BW w w' [.bool false,.slice kA K kc,.slice vA 0 vc,.slice cA (K+1) cc] [2]:=cB.out 2 [] _ q31 HB0.out (by simp)
 clear h hkx hvx hcx hn hl hvl hkids hK
 go_enter Tryz.func217,Tryz.ntmps217
 go_wp2_with (first
  | (go_at_call 261;(with_reducible refine cB1.mono ?_);clear cB1;rintro e w1 ⟨rfl,hb1⟩;obtain⟨HX1,d0,d1,d2,d3⟩:=HCE.out _ _ hb1;have cB2:=cB.out K _ _ (by omega) hb1 (by simp);clear hb1)
  | (go_at_call 261;(with_reducible refine cB2.mono ?_);clear cB2;rintro e w2 ⟨rfl,hb2⟩;obtain⟨HX2,e0,e1,e2,e3⟩:=HCE.out _ _ hb2;have HB2:=hD hb2;clear hb2))
 have HB2:Hid (BW w w2 [.bool false,.slice kA K kc,.slice vA 0 vc,.slice cA (K+1) cc] (preL n 0)):=by rw[HP0.out];exact HB2.out
 clear d0 d1 d2 d3 e0 e1 e2 e3
 go_loopw [21] (fun i wr=>∃k:Nat,k≤K∧i= .int .i64 k∧BW w wr [.bool false,.slice kA K kc,.slice vA 0 vc,.slice cA (K+1) cc] (preL n k)) (fun i _=>K-(intOf i).toNat)
 case atStart=>exact⟨0,by omega,rfl,HB2.out⟩
 case round=>
  obtain⟨k,hk,rfl,hbw⟩:=hrel
  have HBW:=hD hbw
  obtain⟨HXW,r0,r1,r2,r3⟩:=HCE.out _ _ hbw
  clear hbw
  by_cases hkl:k<K
  ·have q1:decide ((k:Int)<K)=true:=decide_eq_true (by omega)
   have q1':decide (k<K)=true:=decide_eq_true hkl
   have hkk:k<n.keys.length:=by rw[HK.out];exact hkl
   obtain⟨kb,ko,rfl,hkb,hkc⟩:=HKX.out (by omega)
   have HCK:=hD (hkc k hkk)
   have hk1:=HN.out.keys _ (List.getElem_mem hkk)
   have HST:Hid (preL n (k+1)=preL n k++ [UInt8.ofNat n.keys[k].size]++n.keys[k].data.toList):=by
    unfold Hid
    rw[Y3c]
    unfold entL
    rw[if_neg (by rw[HL.out];simp),List.getElem?_eq_getElem hkk]
    simp[lenL]
   obtain⟨x,hx⟩:∃x,n.keys[k]=x:=⟨_,rfl⟩
   rw[hx]at HCK hk1 HST
   have hpl:=HPL.out k hk
   have c0:wr.cell? ⟨kb,ko+k,none⟩=some (.string x):=(HXW.out.cell (p:=⟨kb,ko+k,none⟩) hkb).trans HCK.out
   have x1:IntKind.u8.wrap (x.size:Int)=x.size:=by rw[IntKind.wrap_u8];omega
   have cA1:=cB.out x.size _ _ (by omega) HBW.out (by omega)
   clear hx hkc
   go_wp2_with (first
    | (go_at_call 261;(with_reducible refine cA1.mono ?_);clear cA1;rintro e w3 ⟨rfl,hb3⟩;obtain⟨HX3,s0,s1,s2,s3⟩:=HCE.out _ _ hb3;have cA2:=cS.out x _ _ (by omega) hb3 (by rw[List.length_append];simp;omega);clear hb3)
    | (go_at_call 172;(with_reducible refine cA2.mono ?_);clear cA2;rintro e w4 ⟨rfl,hb4⟩;obtain⟨HX4,t0,t1,t2,t3⟩:=HCE.out _ _ hb4;have HB6:=hD hb4;clear hb4))
   go_roundw
   case rel=>exact⟨k+1,by omega,by go_num,by rw[HST.out];exact HB6.out⟩
   case measure=>simp[intOf];omega
  ·obtain rfl:k=K:=by omega
   have q1:decide ((k:Int)<k)=false:=decide_eq_false (by omega)
   have HB7:=HBW.out
   rw[←HPE.out]at HB7
   have HB7:=hD HB7
   go_wp2_with fail
   clear r0 r1 r2 r3
   go_loopw [52] (fun i wr=>∃j:Nat,j≤k+1∧i= .int .i64 j∧BW w wr [.bool false,.slice kA k kc,.slice vA 0 vc,.slice cA (k+1) cc] (preK n j)) (fun i _=>k+1-(intOf i).toNat)
   case atStart=>exact⟨0,by omega,rfl,HB7.out⟩
   case round=>
    obtain⟨j,hj,rfl,hbw⟩:=hrel
    have HBK:=hD hbw
    obtain⟨HXK,r0,r1,r2,r3⟩:=HCE.out _ _ hbw
    clear hbw
    by_cases hjl:j<k+1
    ·have q2:decide ((j:Int)<k+1)=true:=decide_eq_true (by omega)
     have q2':decide (j<k+1)=true:=decide_eq_true hjl
     have hjk:j<n.kids.length:=by rw[HC.out];exact hjl
     obtain⟨cb,co,rfl,hcb,hcc⟩:=HCX.out (by rw[HC.out];omega)
     have hc0:=HN.out.kids _ (List.getElem_mem hjk)
     have c0:=(HXK.out.cell (p:=⟨cb,co+j,none⟩) hcb).trans (hcc j hjk)
     have HST:Hid (preK n (j+1)=preK n j++ [UInt8.ofNat (n.kids[j].toNat%256)]++ [UInt8.ofNat (n.kids[j].toNat/256%256)]):=by
      unfold Hid
      rw[X9w n hjk]
      simp[kidL]
     obtain⟨c,hc⟩:∃c:Nat,n.kids[j]=c:=⟨n.kids[j].toNat,by omega⟩
     rw[hc]at c0 hc0 HST
     rw[Int.toNat_natCast]at HST
     have hpl:=HPK.out j
     obtain⟨b0,hb0⟩:∃b,c%256=b:=⟨_,rfl⟩
     obtain⟨b1,hb1⟩:∃b,c/256%256=b:=⟨_,rfl⟩
     rw[hb0,hb1]at HST
     have hb0l:b0<256:=by omega
     have hb1l:b1<256:=by omega
     have x1:IntKind.u8.wrap (c:Int)=(b0:Int):=by rw[IntKind.wrap_u8];omega
     have x2:IntKind.u8.wrap ((c:Int)/256)=(b1:Int):=by rw[IntKind.wrap_u8];omega
     have cA1:=cB.out b0 _ _ hb0l HBK.out (by omega)
     clear hb0 hb1
     clear hc hcc
     go_wp2_with (first
      | (go_at_call 261;(with_reducible refine cA1.mono ?_);clear cA1;rintro e w8 ⟨rfl,hb8⟩;obtain⟨HX8,s0,s1,s2,s3⟩:=HCE.out _ _ hb8;have cA2:=cB.out b1 _ _ hb1l hb8 (by rw[List.length_append];simp;omega);clear hb8)
      | (go_at_call 261;(with_reducible refine cA2.mono ?_);clear cA2;rintro e w9 ⟨rfl,hb9⟩;have HB9:=hD hb9;clear hb9))
     go_roundw
     case rel=>exact⟨j+1,by omega,by go_num,by rw[HST.out];exact HB9.out⟩
     case measure=>simp[intOf];omega
    ·obtain rfl:j=k+1:=by omega
     have q2:decide (((k+1:Nat):Int)<k+1)=false:=decide_eq_false (by omega)
     have q2':decide (k+1<k+1)=false:=decide_eq_false (by omega)
     have hne:preK n (k+1)≠ []:=by unfold preK preL;simp
     have cTT:=cT.out _ _ HBK.out hne
     rw[HE.out]at cTT
     have HTT:=hD cTT
     clear cTT hne
     go_wp2_with (go_at_call 175;(with_reducible refine HTT.out.mono ?_);rintro e w7 ⟨rfl,hb7⟩)
     go_ret
     exact⟨rfl,hb7⟩
structure PageN (S:StoreD) (a:Nat) (n:NodeD):Prop where
 given:Z0r S a
 ok:NodeOk n
 fits:(Z2h n).length≤256
 view:Z1a S a=padB (bts (Z2h n))
theorem V2t(n:NodeD)(hn:NodeOk n):(Z2n n 0).length=Z0n n.keys+Z0n n.vals:=by
 have h:∀i,i≤n.keys.length→((List.range' 0 i).flatMap (entL n)).length=Z0n (n.keys.take i)+Z0n (n.vals.take i):=fun i=>by
  induction i with
  | zero=>intro _;simp[Z0n]
  | succ i ih=>
    intro hi
    rw[List.range'_1_concat,List.flatMap_append,List.length_append,ih (by omega),Z7v _ _ (by omega)]
    simp only[List.flatMap_cons,List.flatMap_nil,List.append_nil,Nat.zero_add]
    unfold entL
    rw[List.length_append,Z7u,List.getElem?_eq_getElem (show i<n.keys.length by omega)]
    cases hl:n.leaf with
    | true=>
      have hv:=(hn.leafs hl).1
      rw[Z7v _ _ (by omega),if_pos rfl,Z7u,List.getElem?_eq_getElem (show i<n.vals.length by omega)]
      simp only[Option.getD_some]
      omega
    | false=>
      have hv:=(hn.inner hl).1
      rw[hv]
      simp only[Option.getD_some,List.take_nil]
      simp
      omega
 unfold Z2n
 rw[Nat.sub_zero,h _ (Nat.le_refl _),List.take_length]
 cases hl:n.leaf with
 | true=>rw[←(hn.leafs hl).1,List.take_length]
 | false=>rw[(hn.inner hl).1];simp
theorem V1h(l:List Int):(l.flatMap kidL).length=2*l.length:=by
 induction l with
 | nil=>rfl
 | cons c r ih=>rw[List.flatMap_cons,List.length_append,ih,List.length_cons];show 2+_=_;omega
theorem Z6z(n:NodeD)(hn:NodeOk n):(Z2h n).length=Z0m n:=by
 unfold Z2h
 rw[List.length_cons,List.length_cons,List.length_append,V2t n hn]
 unfold Z5m Z0m
 rw[List.drop_zero,V1h]
 omega
theorem V0b(l:List UInt8)(h:l.length≤256):padB (bts l)=bts (l++List.replicate (256-l.length) 0):=by
 rw[←Y2d (bts l) (256-l.length) (by rw[Z0h]) (by rw[Z0h];exact h),Y1g]
theorem X9z(n:NodeD)(tail:List UInt8)(w:World)(hn:NodeOk n)(hsz:(Z2h n).length+tail.length≤100000):
  Calls Tryz.prog 227 #[.string (bts (Z2h n++tail))] w fun e w'=>∃kv vv cv,e= .returned (.tuple #[X1s n kv vv cv,.int .i64 0])∧NodeAs w' (fun i=>w.heap.size≤i) n kv vv cv∧Ext w w':=by
 cases hl:n.leaf with
 | true=>exact X6j n tail w hn hl hsz
 | false=>exact X1o n tail w hn hl hsz
theorem V3w{n:NodeD}{kv vv cv:Value}(w:World)(h:NodeRd w n kv vv cv)(hn:NodeOk n):
  Calls Tryz.prog 217 #[.agg #[.bool n.leaf,kv,vv,cv]] w fun e w'=>e= .returned (.string (bts (Z2h n)))∧Ext w w':=by
 cases hl:n.leaf with
 | true=>have:=X5g w h hn hl;rwa [hl]at this
 | false=>have:=X0w w h hn hl;rwa [hl]at this
abbrev Z0b(w:World)(t p i:Nat):Prop:=Row1 w t 245 [.pointer (some ⟨p,0,none⟩),.int .i64 i]
theorem X9p{fn:Func}(h:fn.results= #[.cell 4 257,.tmp 5])(tmps:Array Value)(w:World)(B:Nat)(n:NodeD)(kv vv cv v:Value)(hB:tmps.getD 4 undef= .pointer (some ⟨B,0,none⟩))(hv:tmps.getD 5 undef=v)(hr:Row1 w B 257 [.bool n.leaf,kv,vv,cv]):
  (results fn tmps).run Tryz.prog w= .ok (.tuple #[X1s n kv vv cv,v]) w:=by
 rw[results_cell_tmp h,hB,hv]
 have c0:w.cell? ⟨B,0,none⟩=some (.bool n.leaf):=hr.cell 0
 have c1:w.cell? ⟨B,1,none⟩=some kv:=hr.cell 1
 have c2:w.cell? ⟨B,2,none⟩=some vv:=hr.cell 2
 have c3:w.cell? ⟨B,3,none⟩=some cv:=hr.cell 3
 unfold X1s
 go_simp
theorem X4a{t p i:Nat}{F:Nat→Prop}{S:StoreD}(a:Nat)(n:NodeD)(w:World)(ht:Z0b w t p i)(h:PagerAt w p F S)(hp:PageN S a n):
  Calls Tryz.prog 186 #[.pointer (some ⟨t,0,none⟩),.int .i64 a] w fun e w'=>∃kv vv cv B F',e= .returned (.tuple #[.agg #[.bool n.leaf,kv,vv,cv],.int .i64 0])∧NodeAs w' (fun i=>B≤i) n kv vv cv∧PagerAt w' p F' S∧Keeps F F' w w'∧w.heap.size≤B∧∀i,F' i→i<B:=by
 have c0:(w.alloc (.cells #[.bool false,.slice none 0 0,.slice none 0 0,.slice none 0 0] 257)).cell? ⟨t,0,none⟩=some (.pointer (some ⟨p,0,none⟩)):=(Row1.alloc ht _).cell 0
 have hx0:Ext w (w.alloc (.cells #[.bool false,.slice none 0 0,.slice none 0 0,.slice none 0 0] 257)):=Ext.alloc _ _
 have cG:Hid (∀W,Ext w W→Calls Tryz.prog 226 #[.pointer (some ⟨p,0,none⟩),.int .i64 a] W fun e w'=>e= .returned (.tuple #[.string (bts (Z2h n++List.replicate (256-(Z2h n).length) 0)),.int .i64 0])∧∃F',PagerAt w' p F' S∧Keeps (fun i=>F i∧i<w.heap.size) F' W w'):=fun W hW=>by
  have h1:=V5g a W (h.shrink.ext hW) hp.given
  rw[hp.view,V0b _ hp.fits]at h1
  exact h1
 have cP:Hid (∀W,Calls Tryz.prog 227 #[.string (bts (Z2h n++List.replicate (256-(Z2h n).length) 0))] W fun e w'=>∃kv vv cv,e= .returned (.tuple #[.agg #[.bool n.leaf,kv,vv,cv],.int .i64 0])∧NodeAs w' (fun i=>W.heap.size≤i) n kv vv cv∧Ext W w'):=fun W=>X9z n _ W hp.ok (by have:=hp.fits;rw[List.length_replicate];omega)
 generalize bts (Z2h n++List.replicate (256-(Z2h n).length) 0)=s at cG cP
 have HR0:Hid (Row1 (w.alloc (.cells #[.bool false,.slice none 0 0,.slice none 0 0,.slice none 0 0] 257)) w.heap.size 257 [.bool false,.slice none 0 0,.slice none 0 0,.slice none 0 0]):=Row1.made w _ _
 have HX0:=hD hx0
 clear ht h hp hx0
 go_enter Tryz.func186,Tryz.ntmps186
 go_wp2_with (first
  | (go_at_call 226;(with_reducible refine(cG.out _ HX0.out).mono ?_);clear cG;rintro e w1 ⟨rfl,F1,hp1,k1⟩;have hzz:=k1.only.size;have HR1:=hD (k1.only.row HR0.out (fun q=>by have:=q.2;omega));have HP1:=hD hp1.shrink;have HK1:=hD (Keeps.shrink (P:=fun i=>i<w1.heap.size) k1);clear hp1 k1)
  | (go_at_call 227;(with_reducible refine(cP.out _).mono ?_);clear cP;rintro e w2 ⟨kv,vv,cv,rfl,hn2,hb2⟩;obtain⟨kA,kc,rfl⟩:=OwnL.form hn2.keys;obtain⟨vA,vc,rfl⟩:=OwnL.form hn2.vals;obtain⟨cA,cc,rfl⟩:=OwnL.form hn2.kids;have HN2:=hD hn2;have HB2:=hD hb2;have hR2:=HR1.out.ext hb2 HR1.out.lt;have z0:w2.cell? ⟨w.heap.size,0,none⟩=some (.bool false):=hR2.cell 0;have z1:w2.cell? ⟨w.heap.size,1,none⟩=some (.slice none 0 0):=hR2.cell 1;have z2:w2.cell? ⟨w.heap.size,2,none⟩=some (.slice none 0 0):=hR2.cell 2;have z3:w2.cell? ⟨w.heap.size,3,none⟩=some (.slice none 0 0):=hR2.cell 3;have f0:w2.frozen? ⟨w.heap.size,0,none⟩=false:=hR2.soft 0;have f1:w2.frozen? ⟨w.heap.size,1,none⟩=false:=hR2.soft 1;have f2:w2.frozen? ⟨w.heap.size,2,none⟩=false:=hR2.soft 2;have f3:w2.frozen? ⟨w.heap.size,3,none⟩=false:=hR2.soft 3;have HR2:=hD hR2;clear hn2 hb2 hR2))
 refine bodyPost_ret (X9p rfl _ _ w.heap.size n (.slice kA n.keys.length kc) (.slice vA n.vals.length vc) (.slice cA n.kids.length cc) _ rfl rfl ((((HR2.out.set 0 _).set 1 _).set 2 _).set 3 _)) rfl ?_
 have ho:=Y9s (w:=w2) w.heap.size (.bool n.leaf) (.slice kA n.keys.length kc) (.slice vA n.vals.length vc) (.slice cA n.kids.length cc)
 have hlt:w.heap.size<w1.heap.size:=HR1.out.lt
 refine⟨_,_,_,w1.heap.size,fun i=>F1 i∧i<w1.heap.size,rfl,HN2.out.only ho (fun i q q'=>by omega),(HP1.out.ext HB2.out).only ho (fun i q q'=> ?_),?_,by omega,fun i q=>q.2⟩
 ·rcases HK1.out.new i q with r | r
  ·have:=r.2;omega
  ·rw[World.size_alloc]at r;omega
 ·refine⟨?_,fun i q=> ?_⟩
  ·refine(((Only.of HX0.out).trans' (HK1.out.only.mono (fun i q=> .inl q.1))).ext HB2.out).trans (F':=fun i=>i=w.heap.size) ho (fun i q=> .inr (by omega))
  ·rcases HK1.out.new i q with r | r
   ·exact .inl r.1
   ·rw[World.size_alloc]at r;exact .inr (by omega)
def layP(S:StoreD)(a:Nat)(n:NodeD):StoreD:=putP S a (bts (Z2h n))
theorem V1b{t p i:Nat}{F:Nat→Prop}{S:StoreD}(a:Nat)(n:NodeD){kv vv cv:Value}(w:World)(ht:Z0b w t p i)(hnt:¬F t)(h:PagerAt w p F S)(hg:Z0r S a)(hn:NodeOk n)(hs:Z0m n≤256)(hv:NodeRd w n kv vv cv):
  Calls Tryz.prog 177 #[.pointer (some ⟨t,0,none⟩),.int .i64 a,.agg #[.bool n.leaf,kv,vv,cv]] w fun e w'=>e= .returned (.int .i64 0)∧∃F',PagerAt w' p F' (layP S a n)∧Keeps F F' w w':=by
 have hsz:(bts (Z2h n)).size≤256:=by rw[Z0h,Z6z n hn];exact hs
 obtain⟨kA,kc,rfl⟩:=hv.keys.form
 obtain⟨vA,vc,rfl⟩:=hv.vals.form
 obtain⟨cA,cc,rfl⟩:=hv.kids.form
 have cW:Hid (∀W,Ext w W→Calls Tryz.prog 217 #[.agg #[.bool n.leaf,.slice kA n.keys.length kc,.slice vA n.vals.length vc,.slice cA n.kids.length cc]] W fun e w'=>e= .returned (.string (bts (Z2h n)))∧Ext W w'):=fun W hW=>V3w W (hv.ext hW) hn
 have cS:Hid (∀W,Ext w W→Calls Tryz.prog 216 #[.pointer (some ⟨p,0,none⟩),.int .i64 a,.string (bts (Z2h n))] W fun e w'=>e= .returned (.int .i64 0)∧∃F',PagerAt w' p F' (layP S a n)∧Keeps (fun i=>F i∧i<w.heap.size) F' W w'):=fun W hW=>V5d a (bts (Z2h n)) W (h.shrink.ext hW) hg hsz
 generalize bts (Z2h n)=s at cW cS
 obtain⟨lf,hlf⟩:∃lf,n.leaf=lf:=⟨_,rfl⟩
 obtain⟨kn,hkn⟩:∃kn,n.keys.length=kn:=⟨_,rfl⟩
 obtain⟨vn,hvn⟩:∃vn,n.vals.length=vn:=⟨_,rfl⟩
 obtain⟨cn,hcn⟩:∃cn,n.kids.length=cn:=⟨_,rfl⟩
 rw[hlf,hkn,hvn,hcn]at cW ⊢
 have HKS:Hid (∀W,Only (fun i=>F i∧i<w.heap.size) (w.alloc (.cells #[.bool lf,.slice kA kn kc,.slice vA vn vc,.slice cA cn cc] 257)) W→W.cell? ⟨t,0,none⟩=some (.pointer (some ⟨p,0,none⟩))∧W.cell? ⟨w.heap.size,0,none⟩=some (.bool lf)∧W.cell? ⟨w.heap.size,1,none⟩=some (.slice kA kn kc)∧W.cell? ⟨w.heap.size,2,none⟩=some (.slice vA vn vc)∧W.cell? ⟨w.heap.size,3,none⟩=some (.slice cA cn cc)):=fun W hW=>by
  have hr:=hW.row (Row1.made w 257 [.bool lf,.slice kA kn kc,.slice vA vn vc,.slice cA cn cc]) (fun q=>by have:=q.2;omega)
  have h1:Z0b W t p i:=hW.row (Row1.alloc ht _) (fun q=>hnt q.1)
  exact⟨h1.cell 0,hr.cell 0,hr.cell 1,hr.cell 2,hr.cell 3⟩
 clear ht h hg hn hs hv hsz hlf hkn hvn hcn
 go_enter Tryz.func177,Tryz.ntmps177
 go_upto_region 1 with fail
 refine wp_region_held_drew (S:=fun W=>W.cell? ⟨t,0,none⟩=some (.pointer (some ⟨p,0,none⟩))∧W.cell? ⟨w.heap.size,0,none⟩=some (.bool lf)∧W.cell? ⟨w.heap.size,1,none⟩=some (.slice kA kn kc)∧W.cell? ⟨w.heap.size,2,none⟩=some (.slice vA vn vc)∧W.cell? ⟨w.heap.size,3,none⟩=some (.slice cA cn cc)) (by kernel_rfl) (HKS.out _ (Only.of (by exact Xt))) (fun hHeld=> ?_)
 refine' tk 0 ?_
 refine' tk 1 ?_
 refine' tk 2 ?_
 refine' tk 3 ?_
 refine' tk 4 ?_
 refine' tk 5 ?_
 refine stp 6 (fun K hK=> ?_);go_simp
 (with_reducible refine(cW.out _ ?_).mono ?_)
 ·exact Xt
 rintro e w1 ⟨rfl,hb1⟩
 have HB1:Hid (Ext (w.alloc (.cells #[.bool lf,.slice kA kn kc,.slice vA vn vc,.slice cA cn cc] 257)) w1):=Ext.trans (by exact Xt) hb1
 clear hb1
 (try dsimp only)
 (try go_simp)
 refine hK.out _ _ (HKS.out _ (Only.of HB1.out)) (fun hHeld=> ?_)
 clear hK K
 refine pt ?_
 refine stp 7 (fun K hK=> ?_);go_simp
 (with_reducible refine(cS.out _ (Ext.trans (Ext.alloc _ _) HB1.out)).mono ?_)
 rintro e w2 ⟨rfl,F2,hp2,hk2⟩
 have HP2:=hD hp2
 have HB2:Hid (Only (fun i=>F i∧i<w.heap.size) (w.alloc (.cells #[.bool lf,.slice kA kn kc,.slice vA vn vc,.slice cA cn cc] 257)) w2):=(Only.of HB1.out).trans' hk2.only
 have HK2:Hid (Keeps F F2 w w2):=Keeps.widen (Keeps.trans (Keeps.of (Ext.trans (Ext.alloc _ _) HB1.out)) hk2) (fun i q=>q.1)
 clear hp2 hk2
 (try dsimp only)
 (try go_simp)
 refine hK.out _ _ (HKS.out _ HB2.out) (fun hHeld=> ?_)
 clear hK K
 refine pt ?_
 refine' tk 8 ?_
 refine wpAnyH_done (by kernel_rfl) ?_ _
 go_wp2_with fail
 go_ret
 exact⟨rfl,F2,HP2.out,HK2.out⟩
theorem Y0s{t p i:Nat}{F G:Nat→Prop}{S:StoreD}(a:Nat)(n:NodeD){kv vv cv:Value}(w:World)(ht:Z0b w t p i)(hnt:¬F t)(h:PagerAt w p F S)(hg:Z0r S a)(hn:NodeOk n)(hs:Z0m n≤256)(hv:NodeAs w G n kv vv cv):
  Calls Tryz.prog 177 #[.pointer (some ⟨t,0,none⟩),.int .i64 a,.agg #[.bool n.leaf,kv,vv,cv]] w fun e w'=>e= .returned (.int .i64 0)∧∃F',PagerAt w' p F' (layP S a n)∧Keeps F F' w w':=V1b a n w ht hnt h hg hn hs hv.rd
def Z0g(ks:List ByteArray)(k:ByteArray):Nat:=posB ks k+if hasB ks k=true then 1 else 0
theorem Y2j{n:NodeD}{G:Nat→Prop}{kv vv cv:Value}(k:ByteArray)(w:World)(hv:NodeAs w G n kv vv cv)(hr:Z3f n.keys)(hn:n.keys.length≤1000000):
  Calls Tryz.prog 188 #[.agg #[.bool n.leaf,kv,vv,cv],.string k] w fun e w'=>e= .returned (.int .i64 (Z0g n.keys k))∧Ext w w':=by
 obtain⟨kA,kc,rfl⟩:=OwnL.form hv.keys
 obtain⟨vA,vc,rfl⟩:=OwnL.form hv.vals
 obtain⟨cA,cc,rfl⟩:=OwnL.form hv.kids
 have cB:Hid (∀W,Ext w W→Calls Tryz.prog 189 #[.slice kA n.keys.length kc,.string k] W fun e w'=>e= .returned (.tuple #[.int .i64 (posB n.keys k),.bool (hasB n.keys k)])∧W=w'):=fun W hW=>Z4k k W (hv.keys.ext hW) hr (by omega)
 have hp:=Y0l n.keys k
 have HD:Hid (Z0g n.keys k=posB n.keys k+if hasB n.keys k=true then 1 else 0):=rfl
 generalize posB n.keys k=pp at *
 generalize hasB n.keys k=hb at *
 obtain⟨kn,hkn⟩:∃kn,n.keys.length=kn:=⟨_,rfl⟩
 rw[hkn]at cB hp hn ⊢
 clear hv hr hkn
 cases hb
 ·go_enter Tryz.func188,Tryz.ntmps188
  go_wp2_with (go_at_call 189;(with_reducible refine(cB.out _ (Ext.alloc _ _)).mono ?_);clear cB;rintro e w1 ⟨rfl,rfl⟩)
  go_ret
  exact⟨by rw[HD.out];simp,Ext.alloc _ _⟩
 ·go_enter Tryz.func188,Tryz.ntmps188
  go_wp2_with (go_at_call 189;(with_reducible refine(cB.out _ (Ext.alloc _ _)).mono ?_);clear cB;rintro e w1 ⟨rfl,rfl⟩)
  go_ret
  exact⟨by rw[HD.out];simp,Ext.alloc _ _⟩
theorem Z3w{t p i:Nat}{F:Nat→Prop}{S:StoreD}(w:World)(ht:Z0b w t p i)(hnt:¬F t)(h:PagerAt w p F S)(hi:i<16):
  Calls Tryz.prog 132 #[.pointer (some ⟨t,0,none⟩)] w fun e w'=>e= .returned (.tuple #[.int .i64 (Z1v S i),.int .i64 0])∧∃F',PagerAt w' p F' S∧Keeps F F' w w':=by
 have c0:w.cell? ⟨t,0,none⟩=some (.pointer (some ⟨p,0,none⟩)):=ht.cell 0
 have c1:w.cell? ⟨t,1,none⟩=some (.int .i64 i):=ht.cell 1
 have cR:Hid (∀W,Ext w W→Calls Tryz.prog 170 #[.pointer (some ⟨p,0,none⟩),.int .i64 i] W fun e w'=>e= .returned (.tuple #[.int .i64 (Z1v S i),.int .i64 0])∧∃F',PagerAt w' p F' S∧Keeps F F' W w'):=fun W hW=>Y7b i W (h.ext hW) hi
 have HKS:Hid (∀W,Only F w W→W.cell? ⟨t,0,none⟩=some (.pointer (some ⟨p,0,none⟩))∧W.cell? ⟨t,1,none⟩=some (.int .i64 i)):=fun W hW=>⟨(hW.row ht hnt).cell 0,(hW.row ht hnt).cell 1⟩
 clear ht h
 go_enter Tryz.func132,Tryz.ntmps132
 go_upto_region 3 with fail
 refine wp_region_held_drew (S:=fun W=>W.cell? ⟨t,0,none⟩=some (.pointer (some ⟨p,0,none⟩))∧W.cell? ⟨t,1,none⟩=some (.int .i64 i)) (by kernel_rfl) (HKS.out _ (Only.of (by exact Xt))) (fun hHeld=> ?_)
 refine' tk 0 ?_
 refine' tk 1 ?_
 refine' tk 2 ?_
 refine' tk 3 ?_
 refine' tk 4 ?_
 refine' tk 5 ?_
 refine' tk 6 ?_
 refine' tk 7 ?_
 refine stp 8 (fun K hK=> ?_);go_simp
 (with_reducible refine(cR.out _ ?_).mono ?_)
 ·exact Xt
 rintro e w1 ⟨rfl,F1,hp1,hk1⟩
 have HB:Hid (Only F w w1):=(Only.of (by exact Xt)).trans' hk1.only
 have HP1:=hD hp1
 have HK1:Hid (Keeps F F1 w w1):=Keeps.trans (Keeps.of (by exact Xt)) hk1
 clear hp1 hk1
 (try dsimp only)
 (try go_simp)
 refine hK.out _ _ (HKS.out _ HB.out) (fun hHeld=> ?_)
 clear hK K
 refine pt ?_
 refine' tk 9 ?_
 refine' tk 10 ?_
 refine' tk 11 ?_
 refine' tk 12 ?_
 refine wpAnyH_done (by kernel_rfl) ?_ _
 go_wp2_with fail
 go_ret2
 exact⟨rfl,F1,HP1.out,HK1.out⟩
theorem V7o{t p i:Nat}{F G:Nat→Prop}{S:StoreD}(a:Nat)(n:NodeD){kv vv cv:Value}(w:World)(ht:Z0b w t p i)(hnt:¬F t)(h:PagerAt w p F S)(hg:Z0r S a)(hn:NodeOk n)(hf:Fair n)(hs:Z0m n≤256)(hv:NodeAs w G n kv vv cv):
  Calls Tryz.prog 221 #[.pointer (some ⟨t,0,none⟩),.int .i64 a,.agg #[.bool n.leaf,kv,vv,cv]] w fun e w'=>e= .returned (.tuple #[.string ⟨#[]⟩,.int .i64 0,.int .i64 0])∧∃F',PagerAt w' p F' (layP S a n)∧Keeps F F' w w':=by
 obtain⟨kA,kc,rfl⟩:=OwnL.form hv.keys
 obtain⟨vA,vc,rfl⟩:=OwnL.form hv.vals
 obtain⟨cA,cc,rfl⟩:=OwnL.form hv.kids
 have cZ:Hid (∀W,Ext w W→Calls Tryz.prog 265 #[.agg #[.bool n.leaf,.slice kA n.keys.length kc,.slice vA n.vals.length vc,.slice cA n.kids.length cc]] W fun e w'=>e= .returned (.int .i64 (Z0m n))∧Ext W w'):=fun W hW=>Y6x W (hv.ext hW) hf
 have cL:Hid (∀W,Ext w W→Calls Tryz.prog 177 #[.pointer (some ⟨t,0,none⟩),.int .i64 a,.agg #[.bool n.leaf,.slice kA n.keys.length kc,.slice vA n.vals.length vc,.slice cA n.kids.length cc]] W fun e w'=>e= .returned (.int .i64 0)∧∃F',PagerAt w' p F' (layP S a n)∧Keeps F F' W w'):=fun W hW=>Y0s a n W (ht.ext hW ht.lt) hnt (h.ext hW) hg hn hs (hv.ext hW)
 have T1:decide ((Z0m n:Int)≤256)=true:=decide_eq_true (by omega)
 generalize Z0m n=sz at *
 obtain⟨lf,hlf⟩:∃lf,n.leaf=lf:=⟨_,rfl⟩
 obtain⟨kn,hkn⟩:∃kn,n.keys.length=kn:=⟨_,rfl⟩
 obtain⟨vn,hvn⟩:∃vn,n.vals.length=vn:=⟨_,rfl⟩
 obtain⟨cn,hcn⟩:∃cn,n.kids.length=cn:=⟨_,rfl⟩
 rw[hlf,hkn,hvn,hcn]at cZ cL ⊢
 obtain⟨w0,hw0⟩:∃w0,w.alloc (.cells #[.bool lf,.slice kA kn kc,.slice vA vn vc,.slice cA cn cc] 257)=w0:=⟨_,rfl⟩
 have hx0:Ext w w0:=hw0▸Ext.alloc _ _
 have hr0:Row1 w0 w.heap.size 257 [.bool lf,.slice kA kn kc,.slice vA vn vc,.slice cA cn cc]:=hw0▸Row1.made w _ _
 have c0:w0.cell? ⟨w.heap.size,0,none⟩=some (.bool lf):=hr0.cell 0
 have c1:w0.cell? ⟨w.heap.size,1,none⟩=some (.slice kA kn kc):=hr0.cell 1
 have c2:w0.cell? ⟨w.heap.size,2,none⟩=some (.slice vA vn vc):=hr0.cell 2
 have c3:w0.cell? ⟨w.heap.size,3,none⟩=some (.slice cA cn cc):=hr0.cell 3
 have HR:=hD hr0
 have HX:=hD hx0
 clear ht h hg hn hs hv hlf hkn hvn hcn hr0 hx0 hf
 go_enter Tryz.func221,Tryz.ntmps221
 go_wp2_with (first
  | (go_at_call 265;(with_reducible refine(cZ.out _ HX.out).mono ?_);clear cZ;rintro e w1 ⟨rfl,hx1⟩;have hr1:=HR.out.ext hx1 HR.out.lt;have d0:w1.cell? ⟨w.heap.size,0,none⟩=some (.bool lf):=hr1.cell 0;have d1:w1.cell? ⟨w.heap.size,1,none⟩=some (.slice kA kn kc):=hr1.cell 1;have d2:w1.cell? ⟨w.heap.size,2,none⟩=some (.slice vA vn vc):=hr1.cell 2;have d3:w1.cell? ⟨w.heap.size,3,none⟩=some (.slice cA cn cc):=hr1.cell 3;have HX1:=hD (Ext.trans HX.out hx1);clear hr1 hx1)
  | (go_at_call 177;(with_reducible refine(cL.out _ HX1.out).mono ?_);clear cL;rintro e w2 ⟨rfl,F2,hp2,hk2⟩;have HP2:=hD hp2;have HK2:=hD hk2;clear hp2 hk2))
 go_ret3
 exact⟨rfl,F2,HP2.out,Keeps.trans (Keeps.of HX1.out) HK2.out⟩
theorem Keeps.side{F F' G:Nat→Prop}{w w' w'':World}(h:Keeps F F' w w')(k:Only G w' w'')(hG:∀i,G i→w.heap.size≤i):Keeps F F' w w'':=⟨h.only.trans k (fun i q=> .inr (hG i q)),h.new⟩
theorem NodeOk.fair{n:NodeD}(h:NodeOk n):Fair n:=by
 refine⟨fun k hk=>by have:=h.keys k hk;omega,fun k hk=>by have:=h.vals k hk;omega,by have:=h.many;omega,?_,?_⟩
 ·cases hl:n.leaf with
  | true=>have:=(h.leafs hl).1;have:=h.many;omega
  | false=>rw[(h.inner hl).1];simp
 ·cases hl:n.leaf with
  | true=>rw[(h.leafs hl).2];simp
  | false=>have:=(h.inner hl).2;have:=h.many;omega
def X5f(t p i a:Nat)(S:StoreD)(n:NodeD)(R:ByteArray→Nat→StoreD→Prop):Prop:=
 ∀(W:World) (F G:Nat→Prop) (kv vv cv:Value),Z0b W t p i→¬F t→PagerAt W p F S→NodeAs W G n kv vv cv→(∀i,F i→¬G i)→
  Calls Tryz.prog 221 #[.pointer (some ⟨t,0,none⟩),.int .i64 a,.agg #[.bool n.leaf,kv,vv,cv]] W fun e w'=>∃(mid:ByteArray) (right:Nat) (S':StoreD),e= .returned (.tuple #[.string mid,.int .i64 right,.int .i64 0])∧R mid right S'∧∃F',PagerAt w' p F' S'∧Keeps F F' W w'
def putN(n:NodeD)(k v:ByteArray):NodeD:=if hasB n.keys k=true then { n with vals:=n.vals.set (posB n.keys k) v}else { n with keys:=insL n.keys (posB n.keys k) k,vals:=insL n.vals (posB n.keys k) v}
theorem OwnL.setS{w:World}{base:Nat}{v:Value}{l:List ByteArray}(h:OwnL w base 9 1 encS v l)(i:Nat)(hi:i<l.length)(x:ByteArray):
  ∃g c old,v= .slice (some ⟨g,0,none⟩) l.length c∧base≤g∧∀W,Ext w W→W.cell? ⟨g,i,none⟩=some old∧W.frozen? ⟨g,i,none⟩=false∧OwnL (W.setCell ⟨g,i,none⟩ (.string x)) base 9 1 encS (.slice (some ⟨g,0,none⟩) l.length c) (l.set i x):=by
 obtain⟨g,cap,spare,rfl,hb,hr0,hc1,hc2,hs,hfl⟩:=h.row (by omega)
 have h1:=Z9o encS 1 Z0d l i l[i] 0 (.string x) x hi rfl (by omega) rfl
 have hle:i<(l.flatMap encS++spare).length:=by rw[List.length_append,hfl];omega
 refine⟨g,cap,(l.flatMap encS++spare)[i],rfl,hb,fun W hW=> ?_⟩
 have hr:=hr0.ext hW hr0.lt
 refine⟨by rw[hr.cell];exact List.getElem?_eq_getElem hle,hr.soft i,?_⟩
 have h2:=hr.set i (.string x)
 rw[List.set_append_left _ _ (by rw[hfl];omega),show(l.flatMap encS).set i (.string x)=(l.set i x).flatMap encS by rw[←h1];simp]at h2
 have h3:=OwnL.ofRow (base:=base) (cap:=cap) (k:=1) (enc:=encS) h2 hb (by rw[List.length_set];exact hc1) hc2 (by rw[List.length_append,Z0s Z0d,List.length_set];rw[List.length_append,Z0s Z0d]at hs;exact hs) Z0d
 rw[List.length_set]at h3
 exact h3
theorem Y9i{t p i:Nat}{F:Nat→Prop}{S:StoreD}{R:ByteArray→Nat→StoreD→Prop}(a d:Nat)(k v:ByteArray)(n:NodeD)(w:World)(ht:Z0b w t p i)(hnt:¬F t)(h:PagerAt w p F S)(hp:PageN S a n)(hl:n.leaf=true)(hr:Z3f n.keys)(hd:0<d)(hhas:hasB n.keys k=true)(hcut:X5f t p i a S (putN n k v) R):
  Calls Tryz.prog 180 #[.pointer (some ⟨t,0,none⟩),.int .i64 a,.int .i64 d,.string k,.string v] w fun e w'=>∃(mid:ByteArray) (right:Nat) (S':StoreD),e= .returned (.tuple #[.string mid,.int .i64 right,.int .i64 0])∧R mid right S'∧∃F',PagerAt w' p F' S'∧Keeps F F' w w':=by
 have cL:=X4a a n w ht h hp
 have hvl:n.vals.length=n.keys.length:=(hp.ok.leafs hl).1
 have hput:putN n k v= { n with vals:=n.vals.set (posB n.keys k) v}:=if_pos hhas
 have hpos:posB n.keys k<n.keys.length:=by
  obtain⟨j,hj,hje⟩:=List.mem_iff_getElem.1 ((Z5z _ _).1 hhas)
  rw[X1k (l:=n.keys) (k:=k) (p:=j) (by omega) (fun q hq hlt=>by rw[←hje];exact Z1r hr hj hlt) (fun q hq hle=> ?_)]
  ·exact hj
  ·rw[←hje]
   rcases Nat.eq_or_lt_of_le hle with e | e
   ·subst e;exact Z1g _
   ·exact Z2z (Z1r hr hq e)
 have hlen:=hp.ok.many
 have HT:=hD ht
 have HNT:=hD hnt
 have HG:=hD hp.given
 have HRI:=hD hr
 have HCUT:=hD hcut
 have hlt:=ht.lt
 have T0:decide ((d:Int)=0)=false:=decide_eq_false (by omega)
 have HPOS:=hD hpos
 have HVL:=hD hvl
 have HP:Hid (∀W kv vv cv G,NodeAs W G { n with vals:=n.vals.set (posB n.keys k) v} kv vv cv→NodeAs W G (putN n k v) kv vv cv):=by
  rw[hput];exact fun W kv vv cv G q=>q
 have HPL:Hid ((putN n k v).leaf=true):=by rw[hput];exact hl
 have HLF:=hD hl
 have HLEN:=hD hlen
 obtain⟨pos,hpo⟩:∃pos,posB n.keys k=pos:=⟨_,rfl⟩
 obtain⟨kn,hkn⟩:∃kn,n.keys.length=kn:=⟨_,rfl⟩
 rw[hpo,hkn]at HPOS
 rw[hpo]at HP
 have B1:(pos:Int)<kn:=by have:=HPOS.out;omega
 have HPO:=hD hpo
 have HKN:=hD hkn
 have HHAS:=hD hhas
 clear ht hnt h hp hr hcut hhas hput hl hlen hpos hvl hpo hkn
 go_enter Tryz.func180,Tryz.ntmps180
 go_wp2_with (first
  | (go_at_call 186;(with_reducible refine cL.mono ?_);clear cL;rintro e w1 ⟨kv,vv,cv,B,F1,rfl,hn1,hp1,hk1,hB,hF1⟩
     obtain⟨kA,kc,rfl⟩:=OwnL.form hn1.keys;obtain⟨vg,vc,old,rfl,hvb,hvs⟩:=OwnL.setS hn1.vals pos (by rw[HVL.out,HKN.out];exact HPOS.out) v;obtain⟨cA,cc,rfl⟩:=OwnL.form hn1.kids
     rw[HVL.out,HKN.out]at hn1 hvs
     rw[HLF.out,HVL.out,HKN.out]
     have HVS:=hD hvs;clear hvs
     have HBV:Hid (B≤vg):=hn1.fv vg rfl
     have HR1:Hid (Z0b w1 t p i):=hD (hk1.only.row HT.out HNT.out)
     have HNT1:Hid (¬F1 t):=hk1.out hlt HNT.out
     have HTV:Hid (¬t=vg):=by have h8:=Nat.lt_of_lt_of_le hlt hB;have h9:=HBV.out;intro e;omega
     have HN1:=hD hn1;have HP1:=hD hp1;have HK1:=hD hk1;have HB:=hD hB;have HF1:=hD hF1
     have cS:Hid (∀W,Ext w1 W→Calls Tryz.prog 189 #[.slice kA kn kc,.string k] W fun e w'=>e= .returned (.tuple #[.int .i64 pos,.bool true])∧W=w'):=fun W hW=>by
      have q:=Z4k k W (hn1.keys.ext hW) HRI.out (by have:=HLEN.out;omega)
      rw[HPO.out,HHAS.out]at q;exact q
     clear hn1 hp1 hk1 hB hF1)
  | (go_at_call 189;(with_reducible refine(cS.out _ (Ext.alloc _ _)).mono ?_);clear cS;rintro e w2 ⟨rfl,hW⟩
     have hx2:Ext w1 w2:=hW▸Ext.alloc _ _
     have hr2:Row1 w2 w1.heap.size 257 [.bool true,.slice kA kn kc,.slice (some ⟨vg,0,none⟩) kn vc,.slice cA n.kids.length cc]:=hW▸Row1.made w1 _ _
     clear hW
     have hvlt:vg<w1.heap.size:=(HN1.out.vals.lt vg rfl).2
     have d0:w2.cell? ⟨w1.heap.size,0,none⟩=some (.bool true):=hr2.cell 0;have d1:w2.cell? ⟨w1.heap.size,1,none⟩=some (.slice kA kn kc):=hr2.cell 1;have d2:w2.cell? ⟨w1.heap.size,2,none⟩=some (.slice (some ⟨vg,0,none⟩) kn vc):=hr2.cell 2;have d3:w2.cell? ⟨w1.heap.size,3,none⟩=some (.slice cA n.kids.length cc):=hr2.cell 3
     have o1:w2.cell? ⟨vg,pos,none⟩=some old:=(HVS.out _ hx2).1
     have o2:w2.frozen? ⟨vg,pos,none⟩=false:=(HVS.out _ hx2).2.1
     have n1:¬(vg=w1.heap.size):=by omega
     have n2:¬(w1.heap.size=vg):=by omega
     have HX2:=hD hx2;have HR2:=hD hr2
     have hW3:Only (fun j=>j=vg) w2 (w2.setCell ⟨vg,pos,none⟩ (.string v)):=Only.setCell (F:=fun j=>j=vg) (p:=⟨vg,pos,none⟩) Only.refl (.inl rfl) _
     have hN3:NodeAs (w2.setCell ⟨vg,pos,none⟩ (.string v)) (fun j=>B≤j) { n with vals:=n.vals.set pos v} (.slice kA kn kc) (.slice (some ⟨vg,0,none⟩) kn vc) (.slice cA n.kids.length cc):=by
      have h2:=HN1.out.ext hx2
      have h3:=(HVS.out _ hx2).2.2
      exact⟨h2.keys.only hW3 (fun j q q'=>h2.sep j q (by rw[q'];rfl)),h3.lower (Nat.zero_le _),h2.kids.only hW3 (fun j q q'=>h2.kids.apart h2.vals (by decide) q (by rw[q'];rfl)),h2.sep,h2.fk,h2.fv,h2.fc⟩
     have cC:=HCUT.out (w2.setCell ⟨vg,pos,none⟩ (.string v)) _ _ _ _ _ (hW3.row (HR1.out.ext hx2 HR1.out.lt) (fun q=>HTV.out q)) (fun q=>HNT1.out q) ((HP1.out.ext hx2).only hW3 (fun j q q'=>by subst q';have h8:=HF1.out _ q;have h9:=HBV.out;omega)) (HP.out _ _ _ _ _ hN3) (fun j q q'=>by have h8:=HF1.out _ q;have h9:B≤j:=q';omega)
     rw[HPL.out]at cC
     have HX3:Hid (Only (fun j=>j=vg) w1 (w2.setCell ⟨vg,pos,none⟩ (.string v))):=(Only.of hx2).trans' hW3
     clear hx2 hr2 hW3 hN3)
  | (go_at_call 221;(with_reducible refine cC.mono ?_);clear cC;rintro e w4 ⟨mid,right,S4,rfl,hcr,F4,hp4,hk4⟩;have HCR:=hD hcr;have HP4:=hD hp4;have HK4:=hD hk4;clear hcr hp4 hk4))
 go_ret3
 exact⟨mid,right,S4,rfl,HCR.out,F4,HP4.out,Keeps.trans (HK1.out.side HX3.out (fun j q=>by subst q;have:=HB.out;have:=HBV.out;omega)) HK4.out⟩
end Go.Proofs.YtmiolpfanlpfnaaGreat
