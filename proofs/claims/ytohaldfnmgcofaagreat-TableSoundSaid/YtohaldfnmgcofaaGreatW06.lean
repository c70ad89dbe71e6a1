/- bits.Unvar. Conditions: fewer than 10^9 bytes. -/
import Derived.Test.YtohaldfnmgcofaaGreatW05
set_option maxRecDepth 100000
set_option maxHeartbeats 4000000
set_option linter.unusedSimpArgs false
set_option linter.unusedVariables false
namespace Go.Proofs.YtohaldfnmgcofaaGreat
section
open Go.RowKit
theorem pow7(k:Nat)(h:k<=8):128*2 ^ (7*k)<=9223372036854775808:=by
 have:k=0\/k=1\/k=2\/k=3\/k=4\/k=5\/k=6\/k=7\/k=8:=by omega
 rcases this with h | h | h | h | h | h | h | h | h<;>subst h<;>decide
theorem U2d(k:Nat):(128:Nat) ^ k=2 ^ (7*k):=by rw[Nat.pow_mul]
theorem X1d(c:UInt8)(r:List UInt8)(i acc:Nat)(h:i<10):Z5f (c::r) i acc=if i=9/\1<c.toNat then(0,0)else if c.toNat<128 then(if c.toNat=0/\0<i then(0,0)else(acc+c.toNat%128*2 ^ (7*i),i+1))else Z5f r (i+1) (acc+c.toNat%128*2 ^ (7*i)):=by rw[Z5f,if_neg (by omega),U2d]
theorem X6d(r:List UInt8)(acc:Nat):Z5f r 10 acc=(0,0):=by
 cases r with
 | nil=>rfl
 | cons c r=>rw[Z5f,if_pos (by omega)]
theorem X9e(s:ByteArray)(hs:s.size<=1000000000)(w:World):Calls Tryz.prog 100 #[.string s] w fun e w'=>e= .returned (.tuple #[.int .u64 (Y9a s.data.toList).1,.int .i64 (Y9a s.data.toList).2])/\w=w':=by
 obtain⟨l,hl0⟩:∃l,s.data.toList=l:=⟨_,rfl⟩;have hl:l.length=s.size:=by rw[<-hl0,Array.length_toList];rfl
 have HC:Hid (∀k (h:k<s.size),l[k]? =some s[k]):=fun k h=>by subst hl0;rw[aB (by omega)];simp[ByteArray.getElem_eq_getElem_data]
 have HL:=hD hl;rw[hl0];clear hl0 hl;obtain⟨R,hR⟩:∃R,Y9a l=R:=⟨_,rfl⟩;have HR:=hD hR;rw[hR];clear hR;go_enter Tryz.func100,Tryz.ntmps100;go_upto_region 2 with fail
 go_cut [7,8,9,10] (fun _ _ v i wx=>v= .int .i64 (min s.size 10:Nat)/\i= .int .i64 0/\w=wx)
 case first=>
  by_cases h:(10:Int)<s.size
  ·go_wp2_with fail
   go_meet
   exact⟨by congr 1;omega,rfl,rfl⟩
  ·go_wp2_with fail
   go_meet
   exact⟨by congr 1;omega,rfl,rfl⟩
 case rest=>
 obtain⟨rfl,rfl,rfl⟩:=hcut;obtain⟨M,hM⟩:∃M,min s.size 10=M:=⟨_,rfl⟩;have hM1:M<=s.size:=by omega
 have hM2:M<=10:=by omega
 have HM:Hid (M=s.size\/M=10):=by unfold Hid;omega
 rw[hM];clear hM;go_wp2_with fail
 go_loopw [4,10] (fun n v wr=>∃(m:Nat) (k:Nat),n= .int .u64 m/\v= .int .i64 k/\k<=M/\Hid (m<2 ^ (7*k))/\Hid (R=Z5f (l.drop k) k m)/\w=wr) (fun _ v _=>M-(intOf v).toNat)
 case atStart=>exact⟨0,0,rfl,rfl,by omega,by simp[Hid],HR.out.symm,rfl⟩
 case round=>
  obtain⟨m,k,rfl,rfl,hk,hm,hu,rfl⟩:=hrel;by_cases hq:k<M
  ·have hks:k<s.size:=by omega
   have hq3:(k:Int)<s.size:=by omega
   have hq4:(7:Int)*k<64:=by omega
   obtain⟨c,hc⟩:∃c,s[k]=c:=⟨_,rfl⟩;have HD:Hid (l.drop k=c::l.drop (k+1)):=by unfold Hid;obtain⟨h1,h2⟩:=aC.1 (HC.out k hks);rw[List.drop_eq_getElem_cons h1,h2,hc]
   have HU:Hid (R=if k=9/\1<c.toNat then(0,0)else if c.toNat<128 then(if c.toNat=0/\0<k then(0,0)else(m+c.toNat%128*2 ^ (7*k),k+1))else Z5f (l.drop (k+1)) (k+1) (m+c.toNat%128*2 ^ (7*k))):=by unfold Hid;rw[hu.out,HD.out,X1d _ _ _ _ (by omega)]
   have hcl:=c.toNat_lt;have ha:=U1x c.toNat hcl;by_cases h9:k=9/\1<c.toNat
   ·obtain⟨rfl,h1⟩:=h9;have q1:decide (1<(c.toNat:Int))=true:=aN;have HU2:Hid (R=(0,0)):=by unfold Hid;rw[HU.out,if_pos ⟨rfl,h1⟩]
    go_wp2_with fail
    go_ret2
    rw[HU2.out];exact⟨rfl,rfl⟩
   ·have HU3:Hid (R=if c.toNat<128 then(if c.toNat=0/\0<k then(0,0)else(m+c.toNat%128*2 ^ (7*k),k+1))else Z5f (l.drop (k+1)) (k+1) (m+c.toNat%128*2 ^ (7*k))):=by unfold Hid;rw[HU.out,if_neg h9]
    have hx:c.toNat%128*2 ^ (7*k)<18446744073709551616:=by
     by_cases hk9:k=9
     ·subst hk9;have:c.toNat<=1:=by omega
      have h2:c.toNat%128*2 ^ (7*9)<=1*2 ^ (7*9):=Nat.mul_le_mul_right _ (by omega);omega
     ·have h1:=pow7 k (by omega);have h2:c.toNat%128*2 ^ (7*k)<=128*2 ^ (7*k):=Nat.mul_le_mul_right _ (by omega);omega
    have hor:bits .or .u64 (m:Int) (IntKind.u64.wrap (IntKind.u64.wrap ((c.toNat%128:Nat):Int)*2 ^ (7*k)))=((m+c.toNat%128*2 ^ (7*k):Nat):Int):=by
     have e1:IntKind.u64.wrap ((c.toNat%128:Nat):Int)=((c.toNat%128:Nat):Int):=by rw[IntKind.wrap_u64];omega
     have e2:((c.toNat%128:Nat):Int)*2 ^ (7*k)=((c.toNat%128*2 ^ (7*k):Nat):Int):=by simp
     have e3:IntKind.u64.wrap ((c.toNat%128*2 ^ (7*k):Nat):Int)=((c.toNat%128*2 ^ (7*k):Nat):Int):=by rw[IntKind.wrap_u64];omega
     have h64:2 ^ (7*k)<=18446744073709551616:=Nat.le_trans (Nat.pow_le_pow_right (by decide) (show 7*k<=63 by omega)) (by decide);rw[e1,e2,e3,or64 _ _ _ hm.out hx h64]
    obtain⟨m2,hm2⟩:∃m2,m+c.toNat%128*2 ^ (7*k)=m2:=⟨_,rfl⟩;rw[hm2]at hor HU3;have hor2:bits .or .u64 (m:Int) (IntKind.u64.wrap ((c.toNat:Int)%128*2 ^ (7*k)))=(m2:Int):=by
     have e1:IntKind.u64.wrap ((c.toNat%128:Nat):Int)=(c.toNat:Int)%128:=by rw[IntKind.wrap_u64];omega
     rw[e1]at hor;exact hor
    have HM2:Hid (m2<2 ^ (7*(k+1))):=by
     unfold Hid;have h1:=hm.out;have h2:c.toNat%128*2 ^ (7*k)<=127*2 ^ (7*k):=Nat.mul_le_mul_right _ (by omega);have e:2 ^ (7*(k+1))=128*2 ^ (7*k):=by rw[Nat.mul_add,Nat.pow_add,Nat.mul_comm]
     omega
    clear hm2 hx HU hm hu HD;have q9:((k:Int)==9)=true->decide (1<(c.toNat:Int))=false:=fun h=>by
     have:k=9:=by have h:=eq_of_beq h;omega
     exact decide_eq_false (by omega)
    by_cases h128:c.toNat<128
    ·have q1:decide ((c.toNat:Int)<128)=true:=aN;rw[if_pos h128]at HU3;obtain⟨b9,hb9⟩:∃b9,((k:Int)==9)=b9:=⟨_,rfl⟩;obtain⟨b0,hb0⟩:∃b0,((c.toNat:Int)==0)=b0:=⟨_,rfl⟩;have q5:b9=true->decide (1<(c.toNat:Int))=false:=fun h=>q9 (hb9.trans h);obtain⟨bk,hbk⟩:∃bk,decide (0<(k:Int))=bk:=⟨_,rfl⟩;have HU4:Hid (R=if b0=true/\bk=true then(0,0)else(m2,k+1)):=by
      unfold Hid;rw[HU3.out,<-hb0,<-hbk];have e:(((c.toNat:Int)==0)=true/\decide (0<(k:Int))=true)=(c.toNat=0/\0<k):=by rw[beq_iff_eq,decide_eq_true_iff];exact propext ⟨fun h=>⟨by omega,by omega⟩,fun h=>⟨by omega,by omega⟩⟩
      simp only[e]
     clear HU3;cases b9<;>cases b0<;>cases bk
     all_goals (try have q5:=q5 rfl)
     all_goals go_wp2_with fail
     all_goals go_ret2
     all_goals (rw [HU4.out];refine⟨?_,rfl⟩;first | (simp;done) | (exfalso;first | (have:=of_decide_eq_false hbk;omega) | (have:=of_decide_eq_true hbk;omega)))
    ·have q1:decide ((c.toNat:Int)<128)=false:=aM;have h9':((k:Int)==9)=false:=by simp;omega
     rw[if_neg h128]at HU3;go_wp2_with fail
     go_roundw
     case rel=>exact⟨m2,k+1,rfl,by go_num,by omega,HM2,HU3,trivial⟩
     case measure=>simp[intOf];omega
  ·obtain rfl:k=M:=by omega
   have HE:Hid (R=(0,0)):=by
    unfold Hid;rw[hu.out];rcases HM.out with h | h
    ·rw[List.drop_eq_nil_of_le (by rw[HL.out];omega)];rfl
    ·rw[h];exact X6d _ _
   go_wp2_with fail
   go_ret2
   rw[HE.out];exact⟨rfl,rfl⟩
def hasL(l:List UInt8)(i:Nat):Bool:=(l[i/8]?.getD 0).toNat.testBit (i%8)
def bitU(x:UInt8)(k:Nat)(b:Bool):UInt8:=UInt8.ofNat (if b then x.toNat ||| 2 ^ k else x.toNat &&& (255-2 ^ k))
def Z6v(l:List UInt8)(i:Nat)(b:Bool):List UInt8:=l.set (i/8) (bitU (l[i/8]?.getD 0) (i%8) b)
theorem Z5o(l:List UInt8)(i:Nat)(b:Bool):(Z6v l i b).length=l.length:=by simp[Z6v]
theorem V0q(k:Nat)(h:k<8):2 ^ k<=128:=by have:2 ^ k<=2 ^ 7:=Nat.pow_le_pow_right (by decide) (by omega);omega
theorem V9r(k j:Nat)(hk:k<8)(hj:j<8):(255-2 ^ k).testBit j=decide (j≠k):=by
 have:k=0\/k=1\/k=2\/k=3\/k=4\/k=5\/k=6\/k=7:=by omega
 have h2:j=0\/j=1\/j=2\/j=3\/j=4\/j=5\/j=6\/j=7:=by omega
 rcases this with h | h | h | h | h | h | h | h<;>subst h<;>rcases h2 with h | h | h | h | h | h | h | h<;>subst h<;>decide
theorem V8r(x:UInt8)(k j:Nat)(b:Bool)(hk:k<8)(hj:j<8):(bitU x k b).toNat.testBit j=if j=k then b else x.toNat.testBit j:=by
 have hx:=x.toNat_lt;have hp:=V0q k hk;unfold bitU;cases b
 ·rw[if_neg (by decide),Z2d (Nat.lt_of_le_of_lt Nat.and_le_left (by omega)),Nat.testBit_and,V9r k j hk hj];by_cases h:j=k<;>simp[h]
 ·have h1:x.toNat ||| 2 ^ k<2 ^ 8:=Nat.or_lt_two_pow (by omega) (by omega)
  rw[if_pos rfl,Z2d (by omega),Nat.testBit_or,Nat.testBit_two_pow];by_cases h:j=k
  ·subst h;simp
  ·have h':¬k=j:=fun e=>h e.symm;simp[h,h']
theorem Y8k(l:List UInt8)(i j:Nat)(b:Bool)(hi:i/8<l.length):hasL (Z6v l i b) j=if j=i then b else hasL l j:=by
 unfold hasL Z6v;by_cases h:j/8=i/8
 ·rw[h,List.getElem?_set_self hi,Option.getD_some,V8r _ _ _ _ (Nat.mod_lt _ (by decide)) (Nat.mod_lt _ (by decide))];by_cases h2:j=i
  ·subst h2;simp
  ·rw[if_neg h2,if_neg (by omega)]
 ·rw[List.getElem?_set_ne (by omega),if_neg (by intro e;subst e;exact h rfl)]
theorem V2p(n j:Nat):hasL (List.replicate n 0) j=false:=by unfold hasL;rw[List.getElem?_replicate];split<;>simp
theorem X1j(x k:Nat):(((x/2 ^ k%2:Nat):Int)==1)=x.testBit k:=by rw[Nat.testBit_eq_decide_div_mod_eq];rcases Nat.mod_two_eq_zero_or_one (x/2 ^ k)with h | h<;>rw[h]<;>rfl
theorem X2j(s:ByteArray)(i:Nat)(w:World)(hi:i<1000000000)(hs:i/8<s.size):Calls Tryz.prog 98 #[.string s,.int .i64 i] w fun e w'=>e= .returned (.bool (hasL s.data.toList i))/\w=w':=by
 have hq2:(i:Int)/8<s.size:=by omega
 have hx:=s[i/8].toNat_lt;have he:s.data.toList[i/8]?.getD 0=s[i/8]:=by rw[aB (show i/8<s.data.toList.length by rw[Array.length_toList];exact hs)];simp[ByteArray.getElem_eq_getElem_data]
 have HE:Hid ((bits .and .u8 ((s[i/8].toNat:Int)/2 ^ (i%8)) 1==1)=hasL s.data.toList i):=by
  unfold Hid hasL;rw[he];have e1:(s[i/8].toNat:Int)/2 ^ (i%8)=((s[i/8].toNat/2 ^ (i%8):Nat):Int):=by simp
  rw[e1,and1 _ (Nat.lt_of_le_of_lt (Nat.div_le_self _ _) hx)];exact X1j _ _
 clear he hx;go_enter Tryz.func98,Tryz.ntmps98;go_wp2_with fail;go_ret;exact⟨by rw[<-HE.out];rfl,rfl⟩
theorem Y2k(s:ByteArray)(i:Nat)(b:Bool)(w:World)(hi:i<1000000000)(hs:i/8<s.size)(hbig:s.size<=1000000000):Calls Tryz.prog 123 #[.string s,.int .i64 i,.bool b] w fun e w'=>e= .returned (.tuple #[.string (bts (Z6v s.data.toList i b)),.bool true])/\Ext w w':=by
 have hq2:(i:Int)/8<s.size:=by omega
 have hl:s.data.toList.length=s.size:=by rw[Array.length_toList];rfl
 obtain⟨l,hl0⟩:∃l,s.data.toList=l:=⟨_,rfl⟩;obtain⟨c,w1,hc,hB,hx,hz⟩:=X5m w s;rw[hl0]at hl hB;rw[hl0];obtain⟨x,hxx⟩:∃x,l[i/8]? =some x:=⟨_,aB (by omega)⟩;obtain⟨hk,hx2⟩:=aC.1 hxx;have hcl:=hB.cell (i/8) hk;have hfl:=hB.soft (i/8) hk;rw[hx2]at hcl;have HB:=hD (hB.set (i/8) hk (bitU x (i%8) b));have HW:Hid (Z6v l i b=l.set (i/8) (bitU x (i%8) b)):=by unfold Hid Z6v;rw[hxx];rfl
 rw[HW.out];have hxn:=x.toNat_lt;have hp:=V0q (i%8) (Nat.mod_lt _ (by decide));have HX:=hD hx;obtain⟨y,hy⟩:∃y,bitU x (i%8) b=y:=⟨_,rfl⟩;have HY:Hid (∀z:UInt8,z=bitU x (i%8) b->z=y):=fun z h=>by rw[h,hy]
 have e0:(2:Int) ^ (i%8)%256=((2 ^ (i%8):Nat):Int):=by
  have h3:((2 ^ (i%8):Nat):Int)=2 ^ (i%8):=by simp
  rw[<-h3];exact Int.emod_eq_of_lt (Int.natCast_nonneg _) (Int.ofNat_lt.2 (show 2 ^ (i%8)<256 by omega))
 have HL2:Hid (l.length=s.size):=hl;rw[hy]at HB;rw[hy];clear hB hx hl0 hxx hx2;cases b
 ·have hv:bits .andNot .u8 (x.toNat:Int) (2 ^ (i%8)%256)=(y.toNat:Int):=by rw[e0];have h1:=u8_andNot_nat x.toNat (2 ^ (i%8)) hxn (by omega);rw[h1,<-hy];unfold bitU;rw[if_neg (by decide),Z2d (Nat.lt_of_le_of_lt Nat.and_le_left (by omega))]
  clear hy e0;go_enter Tryz.func123,Tryz.ntmps123;go_wp2_with fail;have hc2:=HB.out.text c s.size (by rw[List.length_set];exact HL2.out.symm);rw[hc2];simp only[Result.andThen];rw[Oper.upon_value];go_wp2_with fail
  go_ret2
  exact⟨rfl,by exact Xx (HX.out)⟩
 ·have hv:bits .or .u8 (x.toNat:Int) (2 ^ (i%8)%256)=(y.toNat:Int):=by
   rw[e0];have h1:=u8_or_nat x.toNat (2 ^ (i%8)) hxn (by omega);have h2:x.toNat ||| 2 ^ (i%8)<2 ^ 8:=Nat.or_lt_two_pow (by omega) (by omega)
   rw[h1,<-hy];unfold bitU;rw[if_pos rfl,Z2d (by omega)]
  clear hy e0;go_enter Tryz.func123,Tryz.ntmps123;go_wp2_with fail;have hc2:=HB.out.text c s.size (by rw[List.length_set];exact HL2.out.symm);rw[hc2];simp only[Result.andThen];rw[Oper.upon_value];go_wp2_with fail
  go_ret2
  exact⟨rfl,by exact Xx (HX.out)⟩
def lowL(l:List UInt8)(a b:Nat):Option Nat:=(List.range b).find? fun j=>decide (a<=j)&& !hasL l j
theorem V1o{l:List UInt8}{a b i:Nat}(h1:a<=i)(h2:i<b)(h3:hasL l i=false)(h4:∀j,a<=j->j<i->hasL l j=true):lowL l a b=some i:=by
 unfold lowL;rw[List.find?_range_eq_some];refine⟨by simp[h1,h3],by simpa using h2,fun j hj=> ?_⟩;by_cases h:a<=j
 ·simp[h4 j h hj]
 ·simp[h]
theorem X0i{l:List UInt8}{a b:Nat}(h4:∀j,a<=j->j<b->hasL l j=true):lowL l a b=none:=by
 unfold lowL;rw[List.find?_eq_none];intro j hj;simp only[List.mem_range]at hj;by_cases h:a<=j
 ·simp[h4 j h hj]
 ·simp[h]
theorem V7p:∀k,k<8->(255:Nat).testBit k=true:=by decide
theorem X7h(s:ByteArray)(a b:Nat)(w:World)(hs:s.size<=100000000)(hb:b<=8*s.size)(ha:0<a):Calls Tryz.prog 149 #[.string s,.int .i64 a,.int .i64 b] w fun e w'=>e= .returned (.tuple #[.int .i64 ((lowL s.data.toList a b).getD 0),.bool (lowL s.data.toList a b).isSome])/\w=w':=by
 obtain⟨l,hl0⟩:∃l,s.data.toList=l:=⟨_,rfl⟩;have HG:Hid (∀i (h:i/8<s.size),l[i/8]?.getD 0=s[i/8]):=fun i h=>by subst hl0;rw[aB (show i/8<s.data.toList.length by rw[Array.length_toList];exact h)];simp[ByteArray.getElem_eq_getElem_data]
 have HH:Hid (∀(i:Nat) (W:World),i<1000000000->i/8<s.size->Calls Tryz.prog 98 #[.string s,.int .i64 i] W fun e w'=>e= .returned (.bool (hasL l i))/\W=w'):=fun i W h1 h2=>by have:=X2j s i W h1 h2;rwa [hl0]at this
 rw[hl0];obtain⟨R,hR⟩:∃R,lowL l a b=R:=⟨_,rfl⟩;have HR:=hD hR;rw[hR];clear hR hl0;have q0:¬(a:Int)<0:=by omega
 have q00:(0:Int)<a:=by omega
 by_cases hab:a<b
 case neg=>
  have q1:decide ((a:Int)<b)=false:=aM;have HN:Hid (R=none):=by unfold Hid;rw[<-HR.out];exact X0i (fun j h1 h2=>by omega)
  go_enter Tryz.func149,Tryz.ntmps149;go_wp2_with fail
  go_loopw [8] (fun i wr=>i= .int .i64 a/\w=wr) (fun _ _=>0)
  case atStart=>exact⟨rfl,rfl⟩
  case round=>
   obtain⟨rfl,rfl⟩:=hrel;go_wp2_with fail
   go_ret2
   rw[HN.out];exact⟨rfl,rfl⟩
 go_enter Tryz.func149,Tryz.ntmps149;go_wp2_with fail
 go_loopw [8] (fun i wr=>∃k:Nat,i= .int .i64 k/\a<=k/\k<=b+7/\Hid (∀j,a<=j->j<k->hasL l j=true)/\w=wr) (fun i _=>b-(intOf i).toNat)
 case atStart=>exact⟨a,rfl,aF _,by omega,fun j h1 h2=>by omega,rfl⟩
 case round=>
  obtain⟨k,rfl,hk1,hk2,hk3,rfl⟩:=hrel;by_cases hq:k<b
  ·have q1:decide ((k:Int)<b)=true:=aN;have q2:decide ((k:Int)/8<s.size)=true:=aN;have q2':(k:Int)/8<s.size:=by omega
   have h8:k/8<s.size:=by omega
   obtain⟨x,hx⟩:∃x,s[k/8]=x:=⟨_,rfl⟩;have HX:Hid (l[k/8]?.getD 0=x):=(HG.out k h8).trans hx;have cH:=HH.out k w (by omega) h8;by_cases hf:k%8=0/\x.toNat=255
   ·obtain⟨hf1,hf2⟩:=hf;have q3:((k:Int)%8==0)=true:=by simp;omega
    have q4:((x.toNat:Int)==255)=true:=by simp;omega
    have HK:Hid (∀j,a<=j->j<k+7+1->hasL l j=true):=fun j h1 h2=>by
     by_cases hj:j<k
     ·exact hk3.out j h1 hj
     ·unfold hasL;rw[show j/8=k/8 by omega,HX.out,hf2];exact V7p _ (Nat.mod_lt _ (by decide))
    go_wp2_with fail
    go_roundw
    case rel=>exact⟨k+7+1,by go_num,by omega,by omega,HK,trivial⟩
    case measure=>simp[intOf];omega
   ·obtain⟨b3,hb3⟩:∃b3,((k:Int)%8==0)=b3:=⟨_,rfl⟩;have q4:b3=true->((x.toNat:Int)==255)=false:=fun h=>by subst h;have:=eq_of_beq hb3;simp;omega
    obtain⟨bh,hbh⟩:∃bh,hasL l k=bh:=⟨_,rfl⟩;rw[hbh]at cH;cases bh
    ·have HS:Hid (R=some k):=by unfold Hid;rw[<-HR.out];exact V1o hk1 hq hbh hk3.out
     cases b3
     ·go_wp2_with (go_at_call 98;refine cH.mono ?_;clear cH;rintro e w1 ⟨rfl,rfl⟩)
      go_ret2
      rw[HS.out];exact⟨rfl,rfl⟩
     ·have q4:=q4 rfl;go_wp2_with (go_at_call 98;refine cH.mono ?_;clear cH;rintro e w1 ⟨rfl,rfl⟩)
      go_ret2
      rw[HS.out];exact⟨rfl,rfl⟩
    ·have HK:Hid (∀j,a<=j->j<k+1->hasL l j=true):=fun j h1 h2=>by
      by_cases hj:j<k
      ·exact hk3.out j h1 hj
      ·obtain rfl:j=k:=by omega
       exact hbh
     cases b3
     ·go_wp2_with (go_at_call 98;refine cH.mono ?_;clear cH;rintro e w1 ⟨rfl,rfl⟩)
      go_roundw
      case rel=>exact⟨k+1,by go_num,by omega,by omega,HK,trivial⟩
      case measure=>simp[intOf];omega
     ·have q4:=q4 rfl;go_wp2_with (go_at_call 98;refine cH.mono ?_;clear cH;rintro e w1 ⟨rfl,rfl⟩)
      go_roundw
      case rel=>exact⟨k+1,by go_num,by omega,by omega,HK,trivial⟩
      case measure=>simp[intOf];omega
  ·have q1:decide ((k:Int)<b)=false:=aM;have HN:Hid (R=none):=by unfold Hid;rw[<-HR.out];exact X0i (fun j h1 h2=>hk3.out j h1 (by omega))
   go_wp2_with fail
   go_ret2
   rw[HN.out];exact⟨rfl,rfl⟩
theorem V3o(w:World):Calls Tryz.prog 122 #[.int .i64 2048] w fun e w'=>e= .returned (.string zeroB)/\Ext w w':=by go_enter Tryz.func122,Tryz.ntmps122;go_wp2_with (at_make;refine Y2a _ rfl _ _ rfl 256 rfl rfl rfl rfl (by omega) ?_;intro w1 h1 hb1);have hc:=h1.text;rw[Z8k]at hc;go_wp2_with fail;(try (rw [hc];simp only[Result.andThen];rw[Oper.upon_value]));go_wp2_with fail;go_ret;exact⟨rfl,hb1⟩
def popN(n:Nat):Nat:=(List.range 8).countP fun i=>n.testBit i
theorem V9y(n:Nat):popN n<=8:=by have:=List.countP_le_length (p:=fun i=>n.testBit i) (l:=List.range 8);simpa [popN]using this
theorem V1g(c:UInt8)(w:World):Calls Tryz.prog 155 #[.int .u8 c.toNat] w fun e w'=>e= .returned (.int .i64 (popN c.toNat))/\w=w':=by
 have hc:(c.toNat:Int)<256:=by have:=c.toNat_lt;omega
 have hn:c.toNat<256:=c.toNat_lt;generalize c.toNat=n at *;go_enter Tryz.func155,Tryz.ntmps155;go_wp2_with fail;go_ret;refine⟨Y3o ?_,rfl⟩;unfold wrap64;rw[<-getElem!_pos];obtain⟨m,rfl⟩:∃m:Fin 256,n=m.val:=⟨⟨n,hn⟩,rfl⟩;clear hn hc
 revert m
 decide +kernel
def Z5k(l:List UInt8):Nat:=(l.map fun c=>popN c.toNat).sum
theorem V4a(l:List UInt8):Z5k l<=8*l.length:=by
 induction l with
 | nil=>simp[Z5k]
 | cons c r ih=>
   have:=V9y c.toNat;simp only[Z5k,List.map_cons,List.sum_cons,List.length_cons]at *;omega
theorem Y4x(l:List UInt8)(k:Nat)(x:UInt8)(h:l[k]? =some x):Z5k (l.take (k+1))=Z5k (l.take k)+popN x.toNat:=by unfold Z5k;rw[List.take_add_one,h,Option.toList_some,List.map_append,List.sum_append];simp
theorem V3z(s:ByteArray)(w:World)(hs:s.size<=100000000):Calls Tryz.prog 97 #[.string s] w fun e w'=>e= .returned (.int .i64 (Z5k s.data.toList))/\w=w':=by
 obtain⟨l,hl0⟩:∃l,s.data.toList=l:=⟨_,rfl⟩;have hl:l.length=s.size:=by rw[<-hl0,Array.length_toList];rfl
 have HC:Hid (∀k (h:k<s.size),l[k]? =some s[k]):=fun k h=>by subst hl0;rw[aB (by omega)];simp[ByteArray.getElem_eq_getElem_data]
 have HB:Hid (∀k,Z5k (l.take k)<=8*s.size):=fun k=>by
  have h1:=V4a (l.take k);have h2:(l.take k).length<=l.length:=by simp;omega
  omega
 have HT:Hid (l.take s.size=l):=by unfold Hid;rw[<-hl,List.take_length]
 rw[hl0];clear hl0 hl;go_enter Tryz.func97,Tryz.ntmps97;go_wp2_with fail
 go_loopw [3,7] (fun n v wr=>∃(k:Nat),n= .int .i64 (Z5k (l.take k))/\v= .int .i64 k/\k<=s.size/\w=wr) (fun _ v _=>s.size-(intOf v).toNat)
 case atStart=>exact⟨0,rfl,rfl,by omega,rfl⟩
 case round=>
  obtain⟨k,rfl,rfl,hk,rfl⟩:=hrel;by_cases hq:k<s.size
  ·have hq3:(k:Int)<s.size:=by omega
   have HS:=hD (Y4x l k _ (HC.out k hq));have hb:=HB.out (k+1);obtain⟨c,hc⟩:∃c,s[k]=c:=⟨_,rfl⟩;rw[hc]at HS;obtain⟨x,hx⟩:∃x,Z5k (l.take k)=x:=⟨_,rfl⟩;obtain⟨y,hy⟩:∃y,Z5k (l.take (k+1))=y:=⟨_,rfl⟩;obtain⟨z,hz⟩:∃z,popN c.toNat=z:=⟨_,rfl⟩;have cO:=V1g c w;have HY:=hD hy;have hs2:=HS.out;rw[hx,hy,hz]at hs2;rw[hz]at cO;rw[hy]at hb;rw[hx];have hsum:(x:Int)+z=y:=by omega
   clear hs2 hx hy hz HS;go_wp2_with (go_at_call 155;refine cO.mono ?_;clear cO;rintro e w1 ⟨rfl,rfl⟩)
   go_roundw
   case rel=>exact⟨k+1,by rw[HY.out],by go_num,by omega,trivial⟩
   case measure=>simp[intOf];omega
  ·obtain rfl:k=s.size:=by omega
   go_wp2_with fail;go_ret;rw[HT.out];exact⟨rfl,rfl⟩
def Z3b(s f:ByteArray):Bool:=decide (f.size<=s.size)&&((s.extract 0 f.size).toList==f.toList)
theorem Y0s(a b:List UInt8):Z3b (bts a) (bts b)=b.isPrefixOf a:=by
 rw[Bool.eq_iff_iff];unfold Z3b;rw[ByteArray.toList_eq,ByteArray.toList_eq,Bool.and_eq_true,decide_eq_true_iff,beq_iff_eq,Z0h,Z0h,List.isPrefixOf_iff_prefix];have e:((bts a).extract 0 b.length).data.toList=a.take b.length:=by simp[bts]
 rw[e,Z1p,List.prefix_iff_eq_take];constructor
 ·rintro⟨_,h⟩;exact h.symm
 ·intro h;have h2:=congrArg List.length h;rw[aD]at h2;exact⟨by omega,h.symm⟩
theorem X9f(s f:ByteArray)(w:World):Calls Tryz.prog 46 #[.string s,.string f] w fun e w'=>e= .returned (.bool (Z3b s f))/\w=w':=by
 by_cases h:f.size<=s.size
 ·have q1:decide ((f.size:Int)<=s.size)=true:=aN;have q2:(f.size:Int)<=s.size:=by omega
  have HU:Hid (Z3b s f=((s.extract 0 f.size).toList==f.toList)):=by unfold Hid Z3b;rw[decide_eq_true h,Bool.true_and]
  go_enter Tryz.func46,Tryz.ntmps46;go_wp2_with fail;go_ret;exact⟨by rw[HU.out];rfl,rfl⟩
 ·have q1:decide ((f.size:Int)<=s.size)=false:=aM;have HU:Hid (Z3b s f=false):=by unfold Hid Z3b;rw[decide_eq_false h,Bool.false_and]
  go_enter Tryz.func46,Tryz.ntmps46;go_wp2_with fail;go_ret;exact⟨by rw[HU.out];rfl,rfl⟩
structure HeadD where
 seq:Nat
 used:Nat
 room:Nat
 pages:Nat
structure HeadOk (h:HeadD):Prop where
 seq:h.seq<18446744073709551616
 used:h.used<4294967296
 room:h.room<4294967296
 pages:h.pages<4294967296
def HeadD.cells(h:HeadD):List Value:= [.int .u64 h.seq,.int .i64 h.used,.int .i64 h.room,.int .i64 h.pages]
def HeadD.val(h:HeadD):Value:= .agg h.cells.toArray
def Z1g(h:HeadD):List UInt8:=Z0f h.seq 8++Z0f h.used 4++Z0f h.room 4++Z0f h.pages 4
def notL(l:List UInt8):List UInt8:=l.map fun b=>UInt8.ofNat (255-b.toNat)
theorem Y0b(h:HeadD):(Z1g h).length=20:=by simp[Z1g,Z0l]
theorem Y7y(l:List UInt8):(notL l).length=l.length:=by simp[notL]
theorem notA(l:List UInt8)(w:World)(hs:l.length<=1000000000):Calls Tryz.prog 199 #[.string (bts l)] w fun e w'=>e= .returned (.string (bts (notL l)))/\Ext w w':=by have:=V1h (bts l) w (by rw[Z0h];exact hs);rwa [Z1p]at this
theorem Y7a(h:HeadD)(w:World)(hh:HeadOk h):Calls Tryz.prog 159 #[.agg #[.int .u64 h.seq,.int .i64 h.used,.int .i64 h.room,.int .i64 h.pages]] w fun e w'=>e= .returned (.string (bts (Z1g h++notL (Z1g h))))/\Ext w w':=by
 obtain⟨h1,h2,h3,h4⟩:=hh;have b1:bts (Z0f h.seq 8)++bts (Z0f h.used 4)=bts (Z0f h.seq 8++Z0f h.used 4):=Y1v _ _;have b2:bts (Z0f h.seq 8++Z0f h.used 4)++bts (Z0f h.room 4)=bts (Z0f h.seq 8++Z0f h.used 4++Z0f h.room 4):=Y1v _ _;have b3:bts (Z0f h.seq 8++Z0f h.used 4++Z0f h.room 4)++bts (Z0f h.pages 4)=bts (Z1g h):=Y1v _ _;have b4:bts (Z1g h)++bts (notL (Z1g h))=bts (Z1g h++notL (Z1g h)):=Y1v _ _;have s1:¬9223372036854775807<(bts (Z0f h.seq 8)).size+(bts (Z0f h.used 4)).size:=by rw[Z0h,Z0h,Z0l,Z0l];omega
 have s2:¬9223372036854775807<(bts (Z0f h.seq 8++Z0f h.used 4)).size+(bts (Z0f h.room 4)).size:=by rw[Z0h,Z0h,aA,Z0l,Z0l,Z0l];omega
 have s3:¬9223372036854775807<(bts (Z0f h.seq 8++Z0f h.used 4++Z0f h.room 4)).size+(bts (Z0f h.pages 4)).size:=by rw[Z0h,Z0h,aA,aA,Z0l,Z0l,Z0l,Z0l];omega
 have s4:¬9223372036854775807<(bts (Z1g h)).size+(bts (notL (Z1g h))).size:=by rw[Z0h,Z0h,Y7y,Y0b];omega
 have c1:Hid (∀W,Calls Tryz.prog 144 #[.int .u64 h.seq,.int .i64 8] W fun e w'=>e= .returned (.string (bts (Z0f h.seq 8)))/\Ext W w'):=fun W=>Z5c h.seq 8 (by omega) h1 W;have c2:Hid (∀W,Calls Tryz.prog 144 #[.int .u64 h.used,.int .i64 4] W fun e w'=>e= .returned (.string (bts (Z0f h.used 4)))/\Ext W w'):=fun W=>Z5c h.used 4 (by omega) (by omega) W;have c3:Hid (∀W,Calls Tryz.prog 144 #[.int .u64 h.room,.int .i64 4] W fun e w'=>e= .returned (.string (bts (Z0f h.room 4)))/\Ext W w'):=fun W=>Z5c h.room 4 (by omega) (by omega) W;have c4:Hid (∀W,Calls Tryz.prog 144 #[.int .u64 h.pages,.int .i64 4] W fun e w'=>e= .returned (.string (bts (Z0f h.pages 4)))/\Ext W w'):=fun W=>Z5c h.pages 4 (by omega) (by omega) W;have c5:=hD (fun W=>notA (Z1g h) W (by rw[Y0b];omega));obtain⟨f1,hf1⟩:∃f,bts (Z0f h.seq 8)=f:=⟨_,rfl⟩;obtain⟨f2,hf2⟩:∃f,bts (Z0f h.used 4)=f:=⟨_,rfl⟩;obtain⟨f3,hf3⟩:∃f,bts (Z0f h.room 4)=f:=⟨_,rfl⟩;obtain⟨f4,hf4⟩:∃f,bts (Z0f h.pages 4)=f:=⟨_,rfl⟩;obtain⟨f12,hf12⟩:∃f,bts (Z0f h.seq 8++Z0f h.used 4)=f:=⟨_,rfl⟩;obtain⟨f123,hf123⟩:∃f,bts (Z0f h.seq 8++Z0f h.used 4++Z0f h.room 4)=f:=⟨_,rfl⟩;obtain⟨fh,hfh⟩:∃f,bts (Z1g h)=f:=⟨_,rfl⟩;obtain⟨fn,hfn⟩:∃f,bts (notL (Z1g h))=f:=⟨_,rfl⟩;obtain⟨fz,hfz⟩:∃f,bts (Z1g h++notL (Z1g h))=f:=⟨_,rfl⟩;rw[hf1]at b1 s1 c1;rw[hf2]at b1 s1 c2;rw[hf3]at b2 s2 c3;rw[hf4]at b3 s3 c4;rw[hf12]at b1 b2 s2;rw[hf123]at b2 b3 s3;rw[hfh]at b3 b4 s4 c5;rw[hfn]at b4 s4 c5;rw[hfz]at b4 ⊢;clear hf1 hf2 hf3 hf4 hf12 hf123 hfh hfn hfz;obtain⟨sq,us,ro,pa⟩:=h;dsimp only at *;have u2:IntKind.u64.wrap (us:Int)=(us:Int):=by rw[IntKind.wrap_u64];omega
 have u3:IntKind.u64.wrap (ro:Int)=(ro:Int):=by rw[IntKind.wrap_u64];omega
 have u4:IntKind.u64.wrap (pa:Int)=(pa:Int):=by rw[IntKind.wrap_u64];omega
 have HKS:Hid (∀W,Ext (w.alloc (.cells #[.int .u64 sq,.int .i64 us,.int .i64 ro,.int .i64 pa] 207)) W->W.cell? ⟨w.heap.size,0,none⟩=some (.int .u64 sq)/\W.cell? ⟨w.heap.size,1,none⟩=some (.int .i64 us)/\W.cell? ⟨w.heap.size,2,none⟩=some (.int .i64 ro)/\W.cell? ⟨w.heap.size,3,none⟩=some (.int .i64 pa)):=fun W hW=>by have hr:=(Row1.made w 207 [.int .u64 sq,.int .i64 us,.int .i64 ro,.int .i64 pa]).ext hW (by simp);exact⟨hr.cell 0,hr.cell 1,hr.cell 2,hr.cell 3⟩
 have HX0:Hid (Ext (w.alloc (.cells #[.int .u64 sq,.int .i64 us,.int .i64 ro,.int .i64 pa] 207)) (w.alloc (.cells #[.int .u64 sq,.int .i64 us,.int .i64 ro,.int .i64 pa] 207))):=Ext.refl _;go_enter Tryz.func159,Tryz.ntmps159;go_upto_region 1 with fail;refine wp_region_held_drew (S:=fun W=>W.cell? ⟨w.heap.size,0,none⟩=some (.int .u64 sq)/\W.cell? ⟨w.heap.size,1,none⟩=some (.int .i64 us)/\W.cell? ⟨w.heap.size,2,none⟩=some (.int .i64 ro)/\W.cell? ⟨w.heap.size,3,none⟩=some (.int .i64 pa)) (by kernel_rfl) (HKS.out _ (by exact Xx (HX0.out))) (fun hHeld=> ?_);refine' tk 0 ?_;refine' tk 1 ?_;refine' tk 3 ?_;refine' tk 4 ?_;refine' tk 5 ?_;refine' tk 8 ?_;refine' tk 9 ?_;refine' tk 10 ?_;refine' tk 13 ?_;refine' tk 14 ?_;refine' tk 15 ?_;refine stp 2 (fun K hK=> ?_);go_simp;refine(c1.out _).mono ?_;rintro e w1 ⟨rfl,hb1⟩;have HB:Hid (Ext (w.alloc (.cells #[.int .u64 sq,.int .i64 us,.int .i64 ro,.int .i64 pa] 207)) w1):=Ext.trans (by exact Xx (HX0.out)) hb1;clear hb1
 (try dsimp only)
 (try go_simp)
 refine hK.out _ _ (HKS.out _ HB.out) (fun hHeld=> ?_);clear hK K;refine pt ?_;refine stp 6 (fun K hK=> ?_);go_simp;refine(c2.out _).mono ?_;rintro e w2 ⟨rfl,hb2⟩;have HB:Hid (Ext (w.alloc (.cells #[.int .u64 sq,.int .i64 us,.int .i64 ro,.int .i64 pa] 207)) w2):=Ext.trans (by exact Xx (HB.out)) hb2;clear hb2
 (try dsimp only)
 (try go_simp)
 refine hK.out _ _ (HKS.out _ HB.out) (fun hHeld=> ?_);clear hK K;refine pt ?_;refine' tk 7 ?_;refine stp 11 (fun K hK=> ?_);go_simp;refine(c3.out _).mono ?_;rintro e w3 ⟨rfl,hb3⟩;have HB:Hid (Ext (w.alloc (.cells #[.int .u64 sq,.int .i64 us,.int .i64 ro,.int .i64 pa] 207)) w3):=Ext.trans (by exact Xx (HB.out)) hb3;clear hb3
 (try dsimp only)
 (try go_simp)
 refine hK.out _ _ (HKS.out _ HB.out) (fun hHeld=> ?_);clear hK K;refine pt ?_;refine' tk 12 ?_;refine stp 16 (fun K hK=> ?_);go_simp;refine(c4.out _).mono ?_;rintro e w4 ⟨rfl,hb4⟩;have HB:Hid (Ext (w.alloc (.cells #[.int .u64 sq,.int .i64 us,.int .i64 ro,.int .i64 pa] 207)) w4):=Ext.trans (by exact Xx (HB.out)) hb4;clear hb4
 (try dsimp only)
 (try go_simp)
 refine hK.out _ _ (HKS.out _ HB.out) (fun hHeld=> ?_);clear hK K;refine pt ?_;refine' tk 17 ?_;refine' tk 18 ?_;refine wpAnyH_done (by kernel_rfl) ?_ _;go_wp2_with (go_at_call 199;refine(c5.out _).mono ?_;rintro e w5 ⟨rfl,hb5⟩);go_ret;exact⟨rfl,Ext.trans (Ext.trans (by exact Xt) HB.out) (Ext.trans (by exact Xt) hb5)⟩
def Z2u(b:ByteArray)(i j:Nat):Nat:=Z3v (b.extract i j).data.toList
theorem X1f(l:List UInt8):Z3v l<2 ^ (8*l.length):=X9d l l.length
theorem X4i(b:ByteArray)(i:Nat)(h:i+4<=b.size):Z2u b i (i+4)<4294967296:=by
 have h1:=X1f (b.extract i (i+4)).data.toList;have h2:(b.extract i (i+4)).data.toList.length=4:=by rw[Array.length_toList];show(b.extract i (i+4)).size=4;rw[ByteArray.size_extract];omega
 rw[h2]at h1;exact h1
theorem X6w(b:ByteArray)(f B:Nat)(w:World)(h:w.cell? ⟨B,0,none⟩=some (.string b))(hf:f+4<=b.size)(hb:b.size<=1000000):
  Calls Tryz.prog 200 #[.int .i64 f,.pointer (some ⟨B,0,none⟩)] w fun e w'=>e= .returned (.int .i64 (Z2u b f (f+4)))/\w=w':=by
 have q1:(f:Int)+4<=b.size:=by omega
 have q2:((f:Int)+4).toNat=f+4:=by omega
 have q3:(0:Int)<=(f:Int)+4:=by omega
 have q4:(f:Int)<=(f:Int)+4:=by omega
 have hs:(b.extract f (f+4)).size<=8:=by rw[ByteArray.size_extract];omega
 have cU:=Z8r (b.extract f (f+4)) hs w;have hlt:=X4i b f hf;have hw:wrap64 (Z2u b f (f+4):Int)=(Z2u b f (f+4):Int):=by unfold wrap64;omega
 change Calls _ _ _ _ (fun e w'=>e= .returned (.int .u64 (Z2u b f (f+4)))/\w=w')at cU;generalize Z2u b f (f+4)=n at *;clear hs;go_enter Tryz.func200,Tryz.ntmps200;go_wp2_with (go_at_call 136;refine cU.mono ?_;clear cU;rintro e w1 ⟨rfl,rfl⟩);go_ret
 first | exact⟨rfl,rfl⟩ | exact⟨by rw[<-hw];rfl,rfl⟩
theorem Y2p{fn:Func}(h:fn.results= #[.cell 2 207,.tmp 3])(tmps:Array Value)(w:World)(B:Nat)(hd:HeadD)(v:Value)(hB:tmps.getD 2 undef= .pointer (some ⟨B,0,none⟩))(hv:tmps.getD 3 undef=v)(hr:Row1 w B 207 hd.cells):
  (results fn tmps).run Tryz.prog w= .ok (.tuple #[hd.val,v]) w:=by
 rw[results_cell_tmp h,hB,hv];have c0:w.cell? ⟨B,0,none⟩=some (.int .u64 hd.seq):=hr.cell 0;have c1:w.cell? ⟨B,1,none⟩=some (.int .i64 hd.used):=hr.cell 1;have c2:w.cell? ⟨B,2,none⟩=some (.int .i64 hd.room):=hr.cell 2;have c3:w.cell? ⟨B,3,none⟩=some (.int .i64 hd.pages):=hr.cell 3;unfold HeadD.val HeadD.cells
 go_simp
def Z4k(b:ByteArray):HeadD×Bool:=
 if(bts (notL (b.extract 0 20).data.toList)).toList==(b.extract 20 40).toList then(⟨Z2u b 0 8,Z2u b 8 12,Z2u b 12 16,Z2u b 16 20⟩,true)else(⟨0,0,0,0⟩,false)
theorem Y9o(b:ByteArray)(w:World)(hb1:40<=b.size)(hb2:b.size<=1000000):
  Calls Tryz.prog 161 #[.string b] w fun e w'=>e= .returned (.tuple #[(Z4k b).1.val,.bool (Z4k b).2])/\Ext w w':=by
 have q1:decide ((b.size:Int)<40)=false:=aM;have q2:(20:Int)<=b.size:=by omega
 have q3:(40:Int)<=b.size:=by omega
 have q4:(8:Int)<=b.size:=by omega
 have cN:Hid (∀W,Calls Tryz.prog 199 #[.string (b.extract 0 20)] W fun e w'=>e= .returned (.string (bts (notL (b.extract 0 20).data.toList)))/\Ext W w'):=fun W=>V1h (b.extract 0 20) W (by rw[ByteArray.size_extract];omega);have HKS:Hid (∀W,Ext (w.alloc (.cells #[.string b] 9)) W->W.cell? ⟨w.heap.size,0,none⟩=some (.string b)):=fun W hW=>((Row1.made w 9 [.string b]).ext hW (by simp)).cell 0;have HA:Hid (∀(f:Nat) (W:World),W.cell? ⟨w.heap.size,0,none⟩=some (.string b)->f+4<=b.size->Calls Tryz.prog 200 #[.int .i64 f,.pointer (some ⟨w.heap.size,0,none⟩)] W fun e w'=>e= .returned (.int .i64 (Z2u b f (f+4)))/\W=w'):=fun f W h1 h2=>X6w b f _ W h1 h2 hb2;have cU:Hid (∀W,Calls Tryz.prog 136 #[.string (b.extract 0 8)] W fun e w'=>e= .returned (.int .u64 (Z2u b 0 8))/\W=w'):=fun W=>Z8r (b.extract 0 8) (by rw[ByteArray.size_extract];omega) W;have HRH:Hid (Z4k b=if(bts (notL (b.extract 0 20).data.toList)).toList==(b.extract 20 40).toList then(⟨Z2u b 0 8,Z2u b 8 12,Z2u b 12 16,Z2u b 16 20⟩,true)else(⟨0,0,0,0⟩,false)):=rfl;obtain⟨N,hN⟩:∃N,bts (notL (b.extract 0 20).data.toList)=N:=⟨_,rfl⟩;rw[hN]at cN HRH;obtain⟨bb,hbb⟩:∃bb,(N.toList==(b.extract 20 40).toList)=bb:=⟨_,rfl⟩;rw[hbb]at HRH;obtain⟨R,hR⟩:∃R,Z4k b=R:=⟨_,rfl⟩;rw[hR]at HRH ⊢;clear hR hN;obtain⟨W0,hW0⟩:∃W0,(w.alloc (.cells #[.string b] 9)).alloc (.cells #[.int .u64 0,.int .i64 0,.int .i64 0,.int .i64 0] 207)=W0:=⟨_,rfl⟩;have HW0:Hid (Ext (w.alloc (.cells #[.string b] 9)) W0/\Row1 W0 (w.heap.size+1) 207 (⟨0,0,0,0⟩:HeadD).cells/\W0.heap.size=w.heap.size+2):=by subst hW0;exact⟨by exact Xt,Row1.made' (by simp) _ _,by simp⟩
 go_enter Tryz.func161,Tryz.ntmps161;go_upto_region 1 with fail;clear hW0;refine wp_region_held_drew (S:=fun W=>W.cell? ⟨w.heap.size,0,none⟩=some (.string b)) (by kernel_rfl) (HKS.out _ (Ext.trans HW0.out.1 (by exact Xt))) (fun hHeld=> ?_);refine' tk 0 ?_;refine' tk 1 ?_;refine' tk 2 ?_;refine' tk 3 ?_;refine' tk 4 ?_;refine' tk 5 ?_;refine' tk 7 ?_;refine' tk 8 ?_;refine stp 6 (fun K hK=> ?_);go_simp;refine(cN.out _).mono ?_;rintro e w1 ⟨rfl,hb1⟩;have HB:Hid (Ext W0 w1):=Ext.trans (by exact Xt) hb1;clear hb1
 (try dsimp only)
 (try go_simp)
 refine hK.out _ _ (HKS.out _ (Ext.trans HW0.out.1 HB.out)) (fun hHeld=> ?_);clear hK K;refine pt ?_;refine' tk 9 ?_;refine' tk 10 ?_;refine wpAnyH_done (by kernel_rfl) ?_ _;have hz0:=HW0.out.2.2;have hlt:w.heap.size+1<W0.heap.size:=by omega
 have HR1:Hid (Row1 w1 (w.heap.size+1) 207 (⟨0,0,0,0⟩:HeadD).cells):=HW0.out.2.1.ext HB.out hlt;have k0:w1.cell? ⟨w.heap.size,0,none⟩=some (.string b):=HKS.out _ (Ext.trans HW0.out.1 HB.out);have b0:w1.cell? ⟨w.heap.size+1,0,none⟩=some (.int .u64 0):=HR1.out.cell 0;have b1:w1.cell? ⟨w.heap.size+1,1,none⟩=some (.int .i64 0):=HR1.out.cell 1;have b2:w1.cell? ⟨w.heap.size+1,2,none⟩=some (.int .i64 0):=HR1.out.cell 2;have b3:w1.cell? ⟨w.heap.size+1,3,none⟩=some (.int .i64 0):=HR1.out.cell 3;have f0:=HR1.out.soft 0;have f1:=HR1.out.soft 1;have f2:=HR1.out.soft 2;have f3:=HR1.out.soft 3;have HXF:Hid (Ext w w1):=Ext.trans (Ext.trans (by exact Xt) HW0.out.1) HB.out;have hb0:=HR1.out.lt;cases bb
 ·rw[if_neg (by decide)]at HRH;go_wp2_with fail;refine bodyPost_ret (Y2p rfl _ _ (w.heap.size+1) ⟨0,0,0,0⟩ _ rfl rfl ((((HR1.out.set 0 _).set 1 _).set 2 _).set 3 _)) rfl ?_;rw[HRH.out];exact⟨rfl,by exact Xx (HXF.out)⟩
 ·rw[if_pos rfl]at HRH;have a1:Calls Tryz.prog 200 #[.int .i64 8,.pointer (some ⟨w.heap.size,0,none⟩)] w1 fun e w'=>e= .returned (.int .i64 (Z2u b 8 12))/\w1=w':=HA.out 8 w1 k0 (by omega);have a2:Calls Tryz.prog 200 #[.int .i64 12,.pointer (some ⟨w.heap.size,0,none⟩)] w1 fun e w'=>e= .returned (.int .i64 (Z2u b 12 16))/\w1=w':=HA.out 12 w1 k0 (by omega);have a3:Calls Tryz.prog 200 #[.int .i64 16,.pointer (some ⟨w.heap.size,0,none⟩)] w1 fun e w'=>e= .returned (.int .i64 (Z2u b 16 20))/\w1=w':=HA.out 16 w1 k0 (by omega);go_wp2_with fail;refine(cU.out _).mono ?_;rintro e w2 ⟨rfl,rfl⟩;go_wp2_with fail;refine a1.mono ?_;rintro e w2 ⟨rfl,rfl⟩;go_wp2_with fail;refine a2.mono ?_;rintro e w2 ⟨rfl,rfl⟩;go_wp2_with fail;refine a3.mono ?_;rintro e w2 ⟨rfl,rfl⟩;go_wp2_with fail;refine bodyPost_ret (Y2p rfl _ _ (w.heap.size+1) ⟨Z2u b 0 8,Z2u b 8 12,Z2u b 12 16,Z2u b 16 20⟩ _ rfl rfl ((((HR1.out.set 0 _).set 1 _).set 2 _).set 3 _)) rfl ?_;rw[HRH.out];exact⟨rfl,by exact Xx (HXF.out)⟩
theorem X5b(n:Nat)(h:n<4294967296):Z3v (Z0f n 4)=n:=by rw[Z9n];exact Nat.mod_eq_of_lt (by simpa using h)
theorem Z7c(l a m r:List UInt8)(i j:Nat)(hl:l=a++m++r)(hi:a.length=i)(hj:i+m.length=j):Z2u (bts l) i j=Z3v m:=by
 unfold Z2u;have e:((bts l).extract i j).data.toList=m:=by subst hl hi hj;simp[bts]
 rw[e]
theorem X6v(h:HeadD)(hh:HeadOk h)(r:List UInt8):Z4k (bts (Z1g h++notL (Z1g h)++r))=(h,true):=by
 have hl:=Y0b h;have hn:(notL (Z1g h)).length=20:=by rw[Y7y,hl]
 have e1:((bts (Z1g h++notL (Z1g h)++r)).extract 0 20).data.toList=Z1g h:=by
  have:((bts (Z1g h++notL (Z1g h)++r)).extract 0 20).data.toList=(Z1g h++notL (Z1g h)++r).take 20:=by simp[bts]
  rw[this,aG,List.take_left' hl]
 have e2:((bts (Z1g h++notL (Z1g h)++r)).extract 20 40).data.toList=notL (Z1g h):=by
  have:((bts (Z1g h++notL (Z1g h)++r)).extract 20 40).data.toList=((Z1g h++notL (Z1g h)++r).drop 20).take 20:=by simp[bts]
  rw[this,aG,List.drop_left' hl,List.take_left' hn]
 unfold Z4k;rw[e1,ByteArray.toList_eq,ByteArray.toList_eq,e2,Z1p,beq_self_eq_true,if_pos rfl];have p1:=Z7c (Z1g h++notL (Z1g h)++r) [] (Z0f h.seq 8) (Z0f h.used 4++Z0f h.room 4++Z0f h.pages 4++notL (Z1g h)++r) 0 8 (by simp[Z1g]) rfl (by simp[Z0l]);have p2:=Z7c (Z1g h++notL (Z1g h)++r) (Z0f h.seq 8) (Z0f h.used 4) (Z0f h.room 4++Z0f h.pages 4++notL (Z1g h)++r) 8 12 (by simp[Z1g]) (Z0l _ _) (by simp[Z0l]);have p3:=Z7c (Z1g h++notL (Z1g h)++r) (Z0f h.seq 8++Z0f h.used 4) (Z0f h.room 4) (Z0f h.pages 4++notL (Z1g h)++r) 12 16 (by simp[Z1g]) (by simp[Z0l]) (by simp[Z0l]);have p4:=Z7c (Z1g h++notL (Z1g h)++r) (Z0f h.seq 8++Z0f h.used 4++Z0f h.room 4) (Z0f h.pages 4) (notL (Z1g h)++r) 16 20 (by simp[Z1g]) (by simp[Z0l]) (by simp[Z0l]);rw[p1,p2,p3,p4,X5b _ hh.used,X5b _ hh.room,X5b _ hh.pages,Z9n,Nat.mod_eq_of_lt (by simpa using hh.seq)]
theorem X6u:(Z4k zeroB).2=false:=by rw[<-Z8k];unfold Z4k;rw[if_neg];decide +kernel
theorem V3l(l:List ByteArray)(j:Nat)(hj:j<l.length):(l.flatMap encS)[j]? =some (.string l[j]):=by have:=Z3i encS 1 Z0d l j _ (aB hj) 0 _ rfl;simpa using this
theorem Z7e{w:World}{base:Nat}{e:TypeId}{v:Value}{l:List ByteArray}(h:OwnL w base e 1 encS v l):∃A c,v= .slice A l.length c/\l.length<=c/\c<=9223372036854775807/\
  (0<l.length->∃b,A=some ⟨b,0,none⟩/\base<=b/\b<w.heap.size/\(∀i,w.frozen? ⟨b,i,none⟩=false)/\∀i (hi:i<l.length),w.cell? ⟨b,i,none⟩=some (.string l[i])):=by
 have h':w.ownsRow base e 1 v l.length (l.flatMap encS):=h;obtain⟨A,c,rfl,h1,h2,h3⟩:=Z3c h';exact⟨A,c,rfl,h1,h2,fun h0=>by
  obtain⟨b,q1,q2,q3,q4,q5⟩:=h3 h0;exact⟨b,q1,q2,q3,q4,fun i hi=>q5 i _ (V3l l i hi)⟩⟩
theorem V3m(l:List (Nat×ByteArray))(j:Nat)(hj:j<l.length):(l.flatMap encP)[j*2]? =some (.int .i64 l[j].1)/\(l.flatMap encP)[j*2+1]? =some (.string l[j].2):=
 ⟨Z3i encP 2 Y2v l j _ (aB hj) 0 _ rfl,Z3i encP 2 Y2v l j _ (aB hj) 1 _ rfl⟩
theorem Y4c{w:World}{base:Nat}{e:TypeId}{v:Value}{l:List (Nat×ByteArray)}(h:OwnL w base e 2 encP v l):∃A c,v= .slice A l.length c/\l.length<=c/\c<=9223372036854775807/\
  (0<l.length->∃b,A=some ⟨b,0,none⟩/\base<=b/\b<w.heap.size/\(∀i,w.frozen? ⟨b,i,none⟩=false)/\∀i (hi:i<l.length),w.cell? ⟨b,i*2,none⟩=some (.int .i64 l[i].1)/\w.cell? ⟨b,i*2+1,none⟩=some (.string l[i].2)):=by
 have h':w.ownsRow base e 2 v l.length (l.flatMap encP):=h;obtain⟨A,c,rfl,h1,h2,h3⟩:=Z3c h';exact⟨A,c,rfl,h1,h2,fun h0=>by
  obtain⟨b,q1,q2,q3,q4,q5⟩:=h3 h0;exact⟨b,q1,q2,q3,q4,fun i hi=>⟨q5 _ _ (V3m l i hi).1,q5 _ _ (V3m l i hi).2⟩⟩⟩
theorem DiskAs.open{w:World}{g:Nat}{F:Nat->Prop}{D:DiskD}{bv lv:Value}(h:DiskAs w g F D bv lv):∃b c,bv= .slice (some ⟨b,0,none⟩) D.blocks.length c/\D.blocks.length<=c/\c<=9223372036854775807/\F b/\b<w.heap.size/\
  (∀i,w.frozen? ⟨b,i,none⟩=false)/\∀i (hi:i<D.blocks.length),w.cell? ⟨b,i,none⟩=some (.string D.blocks[i]):=by
 obtain⟨A,c,rfl,h1,h2,h3⟩:=Z7e h.blocks;obtain⟨b,rfl,_,hlt,hf,hc⟩:=h3 (by have:=h.wf.one;omega);exact⟨b,c,rfl,h1,h2,h.fb b rfl,hlt,hf,hc⟩
theorem Y3p{g:Nat}{F:Nat->Prop}{D:DiskD}(n:Int)(w:World)(h:DiskAt w g F D):
  Calls Tryz.prog 157 #[.pointer (some ⟨g,0,none⟩),.int .i64 n] w fun e w'=>e= .returned (.int .i64 (Z4i D n))/\w=w':=by
 obtain⟨bv,lv,h⟩:=h;obtain⟨b,c,rfl,hc1,hc2,_,_,_,_⟩:=h.open;have c0:w.cell? ⟨g,0,none⟩=_:=h.row.cell 0;obtain⟨dd,hd⟩:∃dd,D.dead=dd:=⟨_,rfl⟩;have c3:w.cell? ⟨g,3,none⟩=some (.bool dd):=by rw[<-hd];exact h.row.cell 3
 obtain⟨N,hN⟩:∃N,D.blocks.length=N:=⟨_,rfl⟩;have hw:=h.wf;have h1:=hw.one;have h2:=hw.many;clear h hw;rw[hN]at c0 hc1 h1 h2;have HR:Hid (Z4i D n=if dd=true then 11 else if n<0\/(N:Int)<=n then 10 else 0):=by unfold Hid Z4i;rw[hd,hN]
 rw[HR.out];clear hd hN HR;cases dd
 ·by_cases hn:n<0
  ·have q1:decide (n<0)=true:=decide_eq_true hn;go_enter Tryz.func157,Tryz.ntmps157;go_wp2_with fail;(try (rw [X5c _ _ _ _ _ _ Tryz.underlying164];simp only[Result.andThen];rw[Oper.upon_value]));go_wp2_with fail;go_ret;exact⟨by simp[hn],rfl⟩
  ·have q1:decide (n<0)=false:=decide_eq_false hn;by_cases hm:(N:Int)<=n
   ·have q2:decide ((N:Int)<=n)=true:=decide_eq_true hm;go_enter Tryz.func157,Tryz.ntmps157;go_wp2_with fail;(try (rw [X5c _ _ _ _ _ _ Tryz.underlying164];simp only[Result.andThen];rw[Oper.upon_value]));go_wp2_with fail;go_ret;exact⟨by simp[hm],rfl⟩
   ·have q2:decide ((N:Int)<=n)=false:=decide_eq_false hm;go_enter Tryz.func157,Tryz.ntmps157;go_wp2_with fail;(try (rw [X5c _ _ _ _ _ _ Tryz.underlying164];simp only[Result.andThen];rw[Oper.upon_value]));go_wp2_with fail;go_ret;exact⟨by simp[hn,hm],rfl⟩
 ·go_enter Tryz.func157,Tryz.ntmps157;go_wp2_with fail;(try (rw [X5c _ _ _ _ _ _ Tryz.underlying164];simp only[Result.andThen];rw[Oper.upon_value]));go_wp2_with fail;go_ret;exact⟨by simp,rfl⟩
theorem Y4s{g:Nat}{F:Nat->Prop}{D:DiskD}(w:World)(h:DiskAt w g F D):
  Calls Tryz.prog 112 #[.pointer (some ⟨g,0,none⟩)] w fun e w'=>e= .returned (.int .i64 D.blocks.length)/\w=w':=by
 obtain⟨bv,lv,h⟩:=h;obtain⟨b,c,rfl,hc1,hc2,_,_,_,_⟩:=h.open;have c0:w.cell? ⟨g,0,none⟩=_:=h.row.cell 0;clear h;go_enter Tryz.func112,Tryz.ntmps112;go_wp2_with fail;go_ret;exact⟨rfl,rfl⟩
theorem X7j(n:Nat)(late:List (Nat×ByteArray))(k:Nat)(hk:k<late.length)(s:ByteArray):Z2y n (late.take (k+1)) s=if late[k].1=n then late[k].2 else Z2y n (late.take k) s:=by unfold Z2y;rw[List.take_add_one,aB hk,List.foldl_append];rfl
theorem Z9b{g:Nat}{F:Nat->Prop}{D:DiskD}(n:Nat)(w:World)(h:DiskAt w g F D)(hd:D.dead=false)(hn:n<D.blocks.length):
  Calls Tryz.prog 113 #[.pointer (some ⟨g,0,none⟩),.int .i64 n] w fun e w'=>e= .returned (.tuple #[.string (Z0y D n),.int .i64 0])/\Ext w w':=by
 have hr:=Y3p (n:Int) w h;have hr0:Z4i D n=0:=by unfold Z4i;rw[hd,if_neg (by simp),if_neg (by omega)]
 rw[hr0]at hr;clear hr0;obtain⟨bv,lv,h⟩:=h;obtain⟨b,c,rfl,hc1,hc2,_,_,_,hcb⟩:=h.open;obtain⟨lA,lc,rfl,hl1,hl2,hlx⟩:=Y4c h.late;have c0:w.cell? ⟨g,0,none⟩=_:=h.row.cell 0;have c1:w.cell? ⟨g,1,none⟩=_:=h.row.cell 1;have cn:=hcb n hn;have hm:=h.wf.many;have HL:=hD hlx;obtain⟨s0,hs0⟩:∃s,D.blocks[n]=s:=⟨_,rfl⟩;rw[hs0]at cn;have HB:Hid (Z0y D n=Z2y n D.late s0):=by unfold Hid Z0y;rw[aB hn,hs0];rfl
 rw[HB.out];clear HB hs0 hlx hcb h hd;go_enter Tryz.func113,Tryz.ntmps113;go_wp2_with (go_at_call 157;refine hr.mono ?_;clear hr;rintro e w1 ⟨rfl,rfl⟩)
 go_loopw [7,28] (fun s i wr=>∃k:Nat,k<=D.late.length/\i= .int .i64 k/\s= .string (Z2y n (D.late.take k) s0)/\Ext w wr) (fun _ i _=>D.late.length-(intOf i).toNat)
 case atStart=>exact⟨0,by omega,rfl,rfl,Ext.refl _⟩
 case round=>
  obtain⟨k,hk,rfl,rfl,hx⟩:=hrel;have HX:=hD hx;have hz:=hx.size;clear hx;by_cases hkl:k<D.late.length
  ·obtain⟨lb,rfl,_,hlb,_,hlc⟩:=HL.out (by omega);have d0:wr.cell? ⟨lb,k*2,none⟩=_:=(HX.out.cell (p:=⟨lb,k*2,none⟩) hlb).trans (hlc k hkl).1;have d1:wr.cell? ⟨lb,k*2+1,none⟩=_:=(HX.out.cell (p:=⟨lb,k*2+1,none⟩) hlb).trans (hlc k hkl).2;have HS:=hD (X7j n D.late k hkl s0);obtain⟨a,ha⟩:∃a,D.late[k].1=a:=⟨_,rfl⟩;obtain⟨t,ht⟩:∃t,D.late[k].2=t:=⟨_,rfl⟩;rw[ha]at d0;rw[ht]at d1;have HS:Hid (Z2y n (D.late.take (k+1)) s0=if a=n then t else Z2y n (D.late.take k) s0):=by rw[<-ha,<-ht];exact HS.out
   obtain⟨s,hs⟩:∃s,Z2y n (D.late.take k) s0=s:=⟨_,rfl⟩;rw[hs]at HS ⊢;clear hs;clear ha ht hlc hlb;by_cases hq:a=n
   ·have q1:decide ((a:Int)=n)=true:=aN;go_wp2_with fail
    go_roundw
    case rel=>exact⟨k+1,by omega,by go_num,by rw[HS.out,if_pos hq],by exact Xx (HX.out)⟩
    case measure=>simp[intOf];omega
   ·have q1:decide ((a:Int)=n)=false:=aM;go_wp2_with fail
    go_roundw
    case rel=>exact⟨k+1,by omega,by go_num,by rw[HS.out,if_neg hq],by exact Xx (HX.out)⟩
    case measure=>simp[intOf];omega
  ·obtain rfl:k=D.late.length:=by omega
   go_wp2_with fail
   go_ret2
   rw[List.take_length];exact⟨rfl,HX.out⟩
end
section
open Go.RowKit Go.Maps
def Z2i{α:Type}(N:Nat)(f:Int->Option α):List Nat:=(List.range N).filter fun(i:Nat)=>(f (i:Int)).isSome
theorem Z8b{α:Type}{N:Nat}{f:Int->Option α}{i:Nat}:i∈Z2i N f↔i<N/\(f (i:Int)).isSome=true:=by simp[Z2i]
theorem Y2e{α:Type}(N:Nat)(f:Int->Option α):(Z2i N f).Nodup:=List.nodup_range.sublist List.filter_sublist
theorem X7l{α:Type}(N:Nat)(f:Int->Option α):(Z2i N f).length<=N:=by have:=(List.filter_sublist (l:=List.range N) (p:=fun(i:Nat)=>(f (i:Int)).isSome)).length_le;simpa [Z2i]using this
def Small{α:Type}(N:Nat)(f:Int->Option α):Prop:=∀x,(f x).isSome=true->0<=x/\x<N
theorem Y1l{k:TypeId}(hk:Tryz.prog.underlying k=some (.int .i64)){l:Lit}(h:KeysOf Tryz.prog k l):∃a,l= .int .i64 a:=by
 obtain⟨v,hv⟩:=h;cases v<;>simp[keyOf,hk,mapKey]at hv
 rename_i q a
 obtain⟨⟨rfl,_⟩,rfl⟩:=hv;exact⟨a,rfl⟩
theorem MapI.count{α:Type}{enc:α->Value}{f:Int->Option α}{w:World}{k:TypeId}{b n:Nat}(h:MapI w k b n enc f)(hk:Tryz.prog.underlying k=some (.int .i64)){N:Nat}(hf:Small N f):
  ∃D:DataW Value,w.ownsMap Tryz.prog k Rv b (Z2i N f).length D/\MapD enc f D/\Maps.size D=(Z2i N f).length:=by
 obtain⟨D,⟨es,clock,hb,F,hs,rfl⟩,h2⟩:=h;have hap:=fit_apart (int_keyed hk) F;have hke:=fit_keys F;have hsz:(es.toList.map (WideElems.rg Tryz.prog k Rv)).length=es.size:=by simp
 have hh:∀x:Int,Maps.has (DataW.map ((es.toList.map (WideElems.rg Tryz.prog k Rv)).foldr DataW.insert [])) (.int .i64 x)=(f x).isSome:=h2.has;generalize hL:es.toList.map (WideElems.rg Tryz.prog k Rv)=L at *;have hmem:∀x:Int,(∃p∈L,p.1=Lit.int .i64 x)↔(f x).isSome=true:=fun x=>by
  rw[<-hh x,has_eq,List.any_eq_true];constructor
  ·rintro⟨p,hp,he⟩;exact⟨p,mem_sorted.2 hp,by rw[he];simp[Lit.sameKey]⟩
  ·rintro⟨p,hp,he⟩;exact⟨p,mem_sorted.1 hp,WideAt.sameKey_eq he⟩
 have hlen:L.length=(Z2i N f).length:=by
  obtain⟨g,hg⟩:∃g:Lit×DataW Value->Nat,∀p a,p.1=Lit.int .i64 a->g p=a.toNat:=⟨fun p=>match p.1 with | .int _ a=>a.toNat | _=>0,fun p a h=>by simp[h]⟩;have hnd:(L.map g).Nodup:=by rw[List.nodup_iff_pairwise_ne,List.pairwise_map];refine List.Pairwise.imp_of_mem ?_ hap;intro p q hp hq hne e;obtain⟨a,ha⟩:=Y1l hk (hke p hp);obtain⟨c,hc⟩:=Y1l hk (hke q hq);rw[hg p a ha,hg q c hc]at e;have h1:=hf a ((hmem a).1 ⟨p,hp,ha⟩);have h2:=hf c ((hmem c).1 ⟨q,hq,hc⟩);exact hne (by rw[ha,hc,show a=c by omega])
  have hp:(L.map g).Perm (Z2i N f):=by
   rw[List.perm_ext_iff_of_nodup hnd (Y2e N f)];intro i;rw[List.mem_map,Z8b];constructor
   ·rintro⟨p,hp,rfl⟩;obtain⟨a,ha⟩:=Y1l hk (hke p hp);have h1:=(hmem a).1 ⟨p,hp,ha⟩;have h2:=hf a h1;rw[hg p a ha,show((a.toNat:Nat):Int)=a by omega];exact⟨by omega,h1⟩
   ·rintro⟨_,h1⟩;obtain⟨p,hp,he⟩:=(hmem i).2 h1;exact⟨p,hp,by rw[hg p _ he];simp⟩
  have:=hp.length_eq;simpa using this
 refine⟨_,⟨es,clock,hb,F,by omega,by rw[hL]⟩,h2,?_⟩;rw[size_eq,length_sorted,hlen]
theorem MapI.tight{α:Type}{enc:α->Value}{f:Int->Option α}{w:World}{k:TypeId}{b n:Nat}(h:MapI w k b n enc f)(hk:Tryz.prog.underlying k=some (.int .i64)){N:Nat}(hf:Small N f):MapI w k b N enc f:=by obtain⟨D,h1,h2,_⟩:=h.count hk hf;exact⟨D,h1.mono (X7l N f),h2⟩
theorem MapI.len{α:Type}{enc:α->Value}{f:Int->Option α}{w:World}{k t e:TypeId}{b n:Nat}(h:MapI w k b n enc f)(hk:Tryz.prog.underlying k=some (.int .i64))(ht:Tryz.prog.underlying t=some (.map k e)){N:Nat}(hf:Small N f)(ty:TypeId):
  (Builtin.len_ #[t] ty #[.map (some b)]).run Tryz.prog w= .ok (.int .i64 ((Z2i N f).length:Int)) w:=by
 obtain⟨D,h1,h2,h3⟩:=h.count hk hf;rw[<-h3];exact h1.len ht ty
theorem MapI.clear{α:Type}{enc:α->Value}{f:Int->Option α}{w:World}{k t e:TypeId}{b n:Nat}(h:MapI w k b n enc f)(ht:Tryz.prog.underlying t=some (.map k e)):
  ∃w',(∀ty,(Builtin.clear_ #[t] ty #[.map (some b)]).run Tryz.prog w= .ok (.tuple #[]) w')/\MapI w' k b 0 enc (fun _=>none)/\But b w w':=by
 obtain⟨D,⟨es,clock,hb,F,hs,jH⟩,h2⟩:=h;refine⟨ChangeMaps.setBlock w b (.map #[] clock),fun ty=>by simp[Builtin.clear_,run_underlying ht,MapKept.run_getObj_map hb,MapKept.run_setObj_map _ hb,Result.andThen,ChangeMaps.setBlock],?_,?_⟩
 ·exact⟨_,⟨#[],clock,ChangeMaps.heap_setBlock_same hb _,⟨by simp,MapKept.stamped_empty clock,by simp⟩,aF _,rfl⟩,MapD.start⟩
 ·exact X0y hb _
end
section
open Go.RowKit
section
variable {P:Program} {α:Type} {t e:TypeId} {size bytes:Nat} {enc:α->List Value}
theorem V4o(el:Elem P t e size bytes)(henc:∀x,(enc x).length=size)(h1:∀x,∀u∈enc x,u.oneCell'=true){o:Oper}{a:Act}{w:World}{K:Act->World->Prop}{Q:Exit->Act->World->Prop}(s x:Operand)
 (ho:o.op= .call { callee:= .builtin .append,args:=#[s,x],argTypes:=#[t,t]})
 {base:Nat}(v:Value)(xs:List α)(hs:a.eval s=v)(hown:OwnL w base e size enc v xs)(hbase:base<=w.heap.size)
 (A:Option Addr)(m c:Nat)(ys:List α)(hx:a.eval x= .slice A m c)(hm:m=ys.length)(hsrc:Src w A m size (ys.flatMap enc))
 (h63:xs.length+ys.length<=1000000000)(hbytes:bytes<=100000)
 (h:∀A' c' w',OwnL w' base e size enc (.slice A' (xs++ys).length c') (xs++ys)->w.grownBy w' v.ownBlock->(∀k,(Value.slice A' (xs++ys).length c').ownBlock=some k->v.ownBlock=some k\/w.heap.size<=k)->K (a.put o.dst (.slice A' (xs++ys).length c')) w'):o.wp P a w K Q:=by
 subst hm;obtain⟨i,z,hi,hz,hsize,hby,hzs⟩:=el.hi;have h1':∀u∈ys.flatMap enc,u.oneCell'=true:=fun u hu=>by obtain⟨y,_,hy⟩:=List.mem_flatMap.1 hu;exact h1 y u hy
 have hb:(xs.length+ys.length)*bytes<=140737488355328:=Nat.le_trans (Nat.mul_le_mul h63 hbytes) (by omega);have go:∀v' w',(Builtin.append_ #[t,t] o.type #[v,.slice A ys.length c]).run P w= .ok v' w'->w'.ownsRow base e size v' (xs.length+ys.length) (xs.flatMap enc++ys.flatMap enc)->w.grownBy w' v.ownBlock->(∀k,v'.ownBlock=some k->v.ownBlock=some k\/w.heap.size<=k)->o.wp P a w K Q:=fun v' w' hr h2 h3 h4=>by
  have hown2:OwnL w' base e size enc v' (xs++ys):=by unfold OwnL;rw[aA,aH];exact h2
  obtain⟨A',c',rfl⟩:=hown2.form;unfold Oper.wp execOp;simp only[ho,resolve,invoke,builtin,Sem.run_bind,Sem.run_pure,Result.andThen_ok,List.map_toArray,List.map_cons,List.map_nil,hs,hx,hr];exact h A' c' w' hown2 h3 h4
 by_cases hm:0<ys.length
 ·obtain⟨b,off,rfl,_,hc⟩:=hsrc.2 hm;obtain⟨v',w',hr,h2,h3,h4⟩:=Z5l (P:=P) w base t o.type e i z size bytes el.ht hi hz hsize hby hzs el.pos v xs.length (xs.flatMap enc) hown ⟨b,off,none⟩ ys.length c (ys.flatMap enc) hsrc.1 (fun j u hu=>by rw[Addr.add_lit];exact hc j u hu) h1' (by simp[maxLen];omega) hb hbase;exact go v' w' hr h2 h3 h4
 ·obtain rfl:ys= []:=List.eq_nil_of_length_eq_zero (by omega);cases A with
  | some ad=>
    obtain⟨v',w',hr,h2,h3,h4⟩:=Z5l (P:=P) w base t o.type e i z size bytes el.ht hi hz hsize hby hzs el.pos v xs.length (xs.flatMap enc) hown ad 0 c [] (by simp) (by simp) (by simp) (by simp[maxLen];omega) hb hbase;exact go v' w' hr (by simpa using h2) h3 h4
  | none=>
    have hr:=Z5h (P:=P) w base t o.type e i size el.ht hi v xs.length (xs.flatMap enc) hown c;exact go v w hr (by simpa [OwnL]using hown) (World.grownBy.refl _ _) (fun k q=> .inl q)
theorem Y1z(el:Elem P t e size bytes)(henc:∀x,(enc x).length=size)(h1:∀x,∀u∈enc x,u.oneCell'=true){ops:Array Oper}{rest:List Oper}{o:Oper}{a:Act}{w:World}{Q:Exit->Act->World->Prop}(hgd:o.guard=none)(s x:Operand)
 (ho:o.op= .call { callee:= .builtin .append,args:=#[s,x],argTypes:=#[t,t]})
 {base:Nat}(v:Value)(xs:List α)(hs:a.eval s=v)(hown:OwnL w base e size enc v xs)(hbase:base<=w.heap.size)
 (A:Option Addr)(m c:Nat)(ys:List α)(hx:a.eval x= .slice A m c)(hm:m=ys.length)(hsrc:Src w A m size (ys.flatMap enc))
 (h63:xs.length+ys.length<=1000000000)(hbytes:bytes<=100000)
 (h:∀A' c' w',OwnL w' base e size enc (.slice A' (xs++ys).length c') (xs++ys)->w.grownBy w' v.ownBlock->(∀k,(Value.slice A' (xs++ys).length c').ownBlock=some k->v.ownBlock=some k\/w.heap.size<=k)->wpList P ops Q rest (a.put o.dst (.slice A' (xs++ys).length c')) w'):wpList P ops Q (o::rest) a w:=
 wpList_plain hgd fun _ hK=>V4o el henc h1 s x ho v xs hs hown hbase A m c ys hx hm hsrc h63 hbytes fun A' c' w' h2 h3 h4=>hK _ _ (h A' c' w' h2 h3 h4)
end
end
section
open Go.RowKit Go.Maps
theorem V6x{a b:ByteArray}(h:a≠b):(Lit.string a.data.toList)≠ .string b.data.toList:=fun e=>h (by
 injection e with e;rw[ByteArray.ext_iff];exact Array.toList_inj.1 e)
def updS(f:ByteArray->Option Int)(x:ByteArray)(v:Option Int):ByteArray->Option Int:=fun y=>if y=x then v else f y
structure MapDS (f:ByteArray->Option Int) (D:DataW Value):Prop where
 tidy:Tidy D
 has:∀x:ByteArray,Maps.has D (.string x.data.toList)=(f x).isSome
 hit:∀(x:ByteArray) a,f x=some a->∀z,D.atKey (.string x.data.toList) z= .held (.int .i64 a)
def MapS(w:World)(k:TypeId)(b n:Nat)(f:ByteArray->Option Int):Prop:=∃D:DataW Value,w.ownsMap Tryz.prog k Rv b n D/\MapDS f D
section
variable {f:ByteArray->Option Int} {w w':World} {k t e:TypeId} {b n:Nat}
theorem MapS.made(w:World)(k:TypeId):MapS (w.alloc (.map #[] 0)) k w.heap.size 0 (fun _=>none):=⟨_,World.ownsMap_made _ _ _ _,tidy_empty,fun _=>rfl,fun _ _ h=>by cases h⟩
theorem MapS.lt(h:MapS w k b n f):b<w.heap.size:=let ⟨_,h,_⟩:=h;h.lt
theorem MapS.block(h:MapS w k b n f)(hb:w'.heap[b]? =w.heap[b]?):MapS w' k b n f:=let ⟨D,⟨es,clock,h1,h2⟩,h3⟩:=h;⟨D,⟨es,clock,hb.trans h1,h2⟩,h3⟩
theorem MapS.ext(h:MapS w k b n f)(hb:Ext w w'):MapS w' k b n f:=h.block (hb.block b h.lt)
theorem MapS.look(h:MapS w k b n f)(hk:Tryz.prog.underlying k=some .string)(ht:Tryz.prog.underlying t=some (.map k e))(hz:(zeroValue e).run Tryz.prog w= .ok (.int .i64 0) w){x:ByteArray}(hx:x.size<=maxLen):
  (Instr.lookup t (.map (some b)) (.string x) true).run Tryz.prog w= .ok (.tuple #[.int .i64 ((f x).getD 0),.bool (f x).isSome]) w:=by
 obtain⟨D,h1,h2⟩:=h;obtain⟨v,ps,hr,hv⟩:=h1.look_ok (string_keyed hk) ht hz (zd:= .held (.int .i64 0)) (zp:= []) rfl (WideMaps.keyOf_string_mk hk hx);have hv2:v= .int .i64 ((f x).getD 0):=by
  unfold Rv at hv;injection hv with hv;injection hv with hv _;cases hf:f x with
  | none=>rw[atKey_of_not_has (by rw[h2.has,hf];rfl)]at hv;injection hv with hv
  | some a=>rw[h2.hit x a hf]at hv;injection hv with hv
 subst hv2;rw[h2.has]at hr;exact hr
theorem MapS.store(h:MapS w k b n f)(hk:Tryz.prog.underlying k=some .string)(ht:Tryz.prog.underlying t=some (.map k e))(hn:n<=1000000000){x:ByteArray}(hx:x.size<=maxLen)(a:Int):
  ∃w',(Instr.mapUpdate t (.map (some b)) (.string x) (.int .i64 a)).run Tryz.prog w= .ok () w'/\MapS w' k b (n+1) (updS f x (some a))/\w.mapTurned w' b:=by
 obtain⟨D,h1,h2⟩:=h;obtain⟨w',hr,h3,h4⟩:=h1.store (string_keyed hk) ht (by simp[maxLen];omega) (WideMaps.keyOf_string_mk hk hx) (d:= .held (.int .i64 a)) (ps:= []) rfl;have hkl:WideAt.IsKeyLit (Lit.string x.data.toList):=trivial;refine⟨w',hr,⟨_,h3,h2.tidy.put hkl _,fun y=> ?_,fun y c hy z=> ?_⟩,h4⟩
 ·unfold updS;by_cases e:y=x
  ·subst e;rw[if_pos rfl,has_put_same h2.tidy.isMap hkl];rfl
  ·rw[if_neg e,has_put_other (V6x e),h2.has]
 ·unfold updS at hy;by_cases e:y=x
  ·subst e;rw[if_pos rfl]at hy;injection hy with hy;subst hy;exact atKey_put_same h2.tidy.isMap hkl _ _
  ·rw[if_neg e]at hy;rw[atKey_put_other (V6x e)];exact h2.hit y c hy z
theorem MapS.drop(h:MapS w k b n f)(hk:Tryz.prog.underlying k=some .string)(ht:Tryz.prog.underlying t=some (.map k e)){x:ByteArray}(hx:x.size<=maxLen)(ty:TypeId):
  ∃w',(Builtin.delete_ #[t,k] ty #[.map (some b),.string x]).run Tryz.prog w= .ok (.tuple #[]) w'/\MapS w' k b n (updS f x none)/\w.mapTurned w' b:=by
 obtain⟨D,h1,h2⟩:=h;obtain⟨w',hr,h3,h4⟩:=h1.drop (string_keyed hk) ht (WideMaps.keyOf_string_mk hk hx) ty;refine⟨w',hr,⟨_,h3,h2.tidy.del _,fun y=> ?_,fun y c hy z=> ?_⟩,h4⟩
 ·unfold updS;by_cases e:y=x
  ·subst e;rw[if_pos rfl,has_del_same];rfl
  ·rw[if_neg e,has_del_other (V6x e),h2.has]
 ·unfold updS at hy;by_cases e:y=x
  ·subst e;rw[if_pos rfl]at hy;cases hy
  ·rw[if_neg e]at hy;rw[atKey_del_other (V6x e)];exact h2.hit y c hy z
end
theorem Only.mapS{F:Nat->Prop}{a w:World}{f:ByteArray->Option Int}{k:TypeId}{b n:Nat}(h:Only F a w)(hm:MapS a k b n f)(hb:¬F b):MapS w k b n f:=hm.block (h.block b hm.lt hb)
end
end Go.Proofs.YtohaldfnmgcofaaGreat
