/- A pager's SetRoot, Room, New, Format. Conditions: a pager in memory; numbers in their bounds. -/
import Derived.Test.YtohaldfnmgcofaaGreatV11
set_option maxRecDepth 100000
set_option maxHeartbeats 4000000
set_option linter.unusedSimpArgs false
set_option linter.unusedVariables false
namespace Go.Proofs.YtohaldfnmgcofaaGreat
open Go.RowKit
def Y2v(v:ByteArray)(i n:Nat):ByteArray:=v.extract 0 (4*i)++bts (Z0f n 4)++v.extract (4*i+4) v.size
theorem Y0h{v:ByteArray}(hv:v.size=256){i:Nat}(hi:i<16)(n:Nat):(Y2v v i n).size=256:=by unfold Y2v;rw[ByteArray.size_append,ByteArray.size_append,ByteArray.size_extract,ByteArray.size_extract,Z0h,Z0k,hv];omega
theorem X5l(v:ByteArray)(i n:Nat):Y2v v i n=bts (v.data.toList.take (4*i)++Z0f n 4++v.data.toList.drop (4*i+4)):=by unfold Y2v;rw[ByteArray.ext_iff];simp[bts];rw[List.take_of_length_le];rw[aJ,Array.length_toList];exact aF _
theorem Y0m(l:List UInt8)(i j:Nat):Z2q (bts l) i j=Z3p ((l.take j).drop i):=by
 unfold Z2q
 congr 1
 have e:((bts l).extract i j).data.toList=(l.drop i).take (j-i):=by simp only[bts,ByteArray.data_extract,Array.toList_extract,List.extract_eq_take_drop]
 rw[e,List.drop_take]
theorem X0x{v:ByteArray}(hv:v.size=256){i j n:Nat}(hi:i<16)(hj:j<16)(hn:n<4294967296):Z2q (Y2v v i n) (4*j) (4*j+4)=if j=i then n else Z2q v (4*j) (4*j+4):=by
 have hl:v.data.toList.length=256:=by rw[Array.length_toList];exact hv
 have hv2:v=bts v.data.toList:=(X4h v).symm;rw[X5l];by_cases e:j=i
 ·subst e;rw[if_pos rfl,Z6r _ (v.data.toList.take (4*j)) (Z0f n 4) (v.data.toList.drop (4*j+4)) _ _ rfl (by rw[aD];omega) (by rw[Z0k]),X3u n hn]
 ·rw[if_neg e]
  conv=>rhs;rw[hv2]
  rw[Y0m,Y0m]
  congr 1
  apply List.ext_getElem?;intro k;simp only[List.getElem?_drop,List.getElem?_take];by_cases hk:4*j+k<4*j+4
  ·rw[if_pos hk,if_pos hk];rcases Nat.lt_or_gt_of_ne e with h | h
   ·rw[aG,aL (by rw[aD];omega),List.getElem?_take,if_pos (by omega)]
   ·rw[List.getElem?_append_right (by rw[aA,aD,Z0k];omega),List.getElem?_drop,aA,aD,Z0k]
    congr 1
    omega
  ·rw[if_neg hk,if_neg hk]
def Z0p(S:StoreD)(i n:Nat):StoreD:=putP S 1 (Y2v (Z1a S 1) i n)
theorem X2p{S:StoreD}(h:FullV S){i j n:Nat}(hi:i<16)(hj:j<16)(hn:n<4294967296):Z1u (Z0p S i n) j=if j=i then n else Z1u S j:=by unfold Z1u Z0p;rw[Z2b,if_pos rfl,Y3i _ (Y0h (h 1) hi n)];exact X0x (h 1) hi hj hn
theorem Y6n(S:StoreD)(i n k:Nat):Z0y (Z0p S i n) k=Z0y S k:=Z8u (by omega) _ _
theorem Y6m(S:StoreD)(i n k:Nat)(hk:k≠1):Z1a (Z0p S i n) k=Z1a S k:=by unfold Z0p;rw[Z2b,if_neg hk]
theorem Z5v{p:Nat}{F:Nat->Prop}{S:StoreD}(i n:Nat)(w:World)(h:PagerAt w p F S)(hi:i<16)(hn:n=0\/Z0r S n):
  Calls Tryz.prog 83 #[.pointer (some ⟨p,0,none⟩),.int .i64 i,.int .i64 n] w fun e w'=>e= .returned (.int .i64 0)/\∃F',PagerAt w' p F' (Z0p S i n)/\Keeps F F' w w':=by
 have cT:=Y7a i w h hi;have hm:=h.most;have hn2:n<1024:=by
  rcases hn with h | h
  ·omega
  ·have:=h.2.1;omega
 have hsz:=h.size 1;have cC:Hid (∀W F1,PagerAt W p F1 S->n≠0->Calls Tryz.prog 143 #[.pointer (some ⟨p,0,none⟩),.int .i64 n] W fun e w'=>e= .returned (.int .i64 0)/\∃F',PagerAt w' p F' S/\Keeps F1 F' W w'):=fun W F1 hW h0=>Y2h n W hW (by rcases hn with r | r;exact absurd r h0;exact r);have cR:Hid (∀W F1,PagerAt W p F1 S->Calls Tryz.prog 135 #[.pointer (some ⟨p,0,none⟩),.int .i64 1] W fun e w'=>e= .returned (.tuple #[.string (Z1a S 1),.int .i64 0])/\∃F',PagerAt w' p F' S/\Keeps F1 F' W w'):=fun W F1 hW=>Z9e 1 W hW (by have:=hW.pages;omega);obtain⟨v,hv⟩:∃v,Z1a S 1=v:=⟨_,rfl⟩;rw[hv]at cR hsz;have cF:Hid (∀W,Calls Tryz.prog 144 #[.int .u64 n,.int .i64 4] W fun e w'=>e= .returned (.string (bts (Z0f n 4)))/\Ext W w'):=fun W=>Z4t n 4 (by omega) (by omega) W;have HRB:Hid (Y2v v i n=v.extract 0 (4*i)++bts (Z0f n 4)++v.extract (4*i+4) 256):=by unfold Hid Y2v;rw[hsz]
 have hrs:=Y0h hsz hi n;have cP:Hid (∀W F1,PagerAt W p F1 S->Calls Tryz.prog 124 #[.pointer (some ⟨p,0,none⟩),.int .i64 1,.string (Y2v v i n)] W fun e w'=>e= .returned (.int .i64 0)/\∃F',PagerAt w' p F' (Z0p S i n)/\Keeps F1 F' W w'):=fun W F1 hW=>by have h1:=Z3k 1 (Y2v v i n) W hW (by have:=hW.pages;omega) (by omega);unfold Z0p;rw[hv];exact h1
 obtain⟨fx,hfx⟩:∃fx,bts (Z0f n 4)=fx:=⟨_,rfl⟩;have hfs:fx.size=4:=by rw[<-hfx,Z0h,Z0k]
 rw[hfx]at cF HRB;have hsi:(v.size:Int)=256:=by omega
 have hi2:(i:Int)<16:=by omega
 have u1:IntKind.i64.wrap ((4:Int)*i)=4*i:=by rw[IntKind.wrap_i64];omega
 have u2:IntKind.i64.wrap ((4:Int)*i+4)=4*i+4:=by rw[IntKind.wrap_i64];omega
 have q0:n≠0->decide ((n:Int)=0)=false:=fun h0=>decide_eq_false (by omega);have a1:(0:Int)<=4*i:=by omega
 have a2:(4:Int)*i<=256:=by omega
 have a3:(4:Int)*i+4<=256:=by omega
 have a4:(0:Int)<=4*i+4:=by omega
 have a5:((4:Int)*i).toNat=4*i:=by omega
 have a6:((4:Int)*i+4).toNat=4*i+4:=by omega
 have a7:¬9223372036854775807<min (4*i) 256+4:=by omega
 have a8:¬9223372036854775807<min (4*i) 256+4+(252-4*i):=by omega
 clear h hv hfx hn;have u0:IntKind.u64.wrap (n:Int)=n:=by rw[IntKind.wrap_u64];omega
 by_cases h0:n=0
 ·have q1:decide ((n:Int)=0)=true:=aN;have q2:(n==0)=true:=by simpa using h0
  clear q0;have HZ:=hD h0;clear h0;go_enter Tryz.func83,Tryz.ntmps83;go_upto_region 11 with (first
   | (go_at_call 75;refine cT.mono ?_;clear cT;rintro e w1 ⟨rfl,F1,hp1,k1⟩;have HP1:=hD hp1;have HK1:=hD k1;clear hp1 k1)
   | (go_at_call 135;refine(cR.out _ _ HP1.out).mono ?_;clear cR;rintro e w2 ⟨rfl,F2,hp2,k2⟩;have HP2:=hD hp2;have HK2:=hD (HK1.out.trans k2);clear hp2 k2))
  refine wp_region_held_drew (S:=fun W=>0<=W.heap.size) (by kernel_rfl) (Nat.zero_le _) (fun hHeld=> ?_);refine' tk 0 ?_;refine' tk 1 ?_;refine' tk 2 ?_;refine' tk 3 ?_;refine' tk 4 ?_;refine' tk 5 ?_;refine' tk 6 ?_;refine' tk 9 ?_;refine' tk 10 ?_;refine' tk 11 ?_;refine' tk 12 ?_;refine' tk 13 ?_;refine stp 7 (fun K hK=> ?_);go_simp
  (with_reducible refine(cF.out _).mono ?_)
  rintro e w3 ⟨rfl,hb3⟩;have HP3:Hid (PagerAt w3 p F2 S):=HP2.out.ext (Ext.trans (by exact Xt) hb3);have HK3:Hid (Keeps F F2 w w3):=HK2.out.ext (Ext.trans (by exact Xt) hb3);clear hb3
  (try dsimp only)
  (try go_simp)
  refine hK.out _ _ (Nat.zero_le _) (fun hHeld=> ?_);clear hK K;refine pt ?_;refine' tk 8 ?_;refine' tk 14 ?_;refine stp 15 (fun K hK=> ?_);go_simp;rw[<-HRB.out]
  (with_reducible refine(cP.out _ _ HP3.out).mono ?_)
  rintro e w4 ⟨rfl,F4,hp4,k4⟩;have HP4:=hD hp4;have HK4:=hD (HK3.out.trans k4);clear hp4 k4
  (try dsimp only)
  (try go_simp)
  refine hK.out _ _ (Nat.zero_le _) (fun hHeld=> ?_);clear hK K;refine pt ?_;refine' tk 16 ?_;refine wpAnyH_done (by kernel_rfl) ?_ _;go_wp2_with fail;go_ret;exact⟨rfl,F4,HP4.out,HK4.out⟩
 ·have q0:=q0 h0;go_enter Tryz.func83,Tryz.ntmps83;go_upto_region 11 with (first
   | (go_at_call 75;refine cT.mono ?_;clear cT;rintro e w1 ⟨rfl,F1,hp1,k1⟩;have HP1:=hD hp1;have HK1:=hD k1;clear hp1 k1)
   | (go_at_call 143;refine(cC.out _ _ HP1.out h0).mono ?_;clear cC;rintro e w5 ⟨rfl,F5,hp5,k5⟩;have HP5:=hD hp5;have HK5:=hD (HK1.out.trans k5);clear hp5 k5)
   | (go_at_call 135;refine(cR.out _ _ HP5.out).mono ?_;clear cR;rintro e w2 ⟨rfl,F2,hp2,k2⟩;have HP2:=hD hp2;have HK2:=hD (HK5.out.trans k2);clear hp2 k2))
  refine wp_region_held_drew (S:=fun W=>0<=W.heap.size) (by kernel_rfl) (Nat.zero_le _) (fun hHeld=> ?_);refine' tk 0 ?_;refine' tk 1 ?_;refine' tk 2 ?_;refine' tk 3 ?_;refine' tk 4 ?_;refine' tk 5 ?_;refine' tk 6 ?_;refine' tk 9 ?_;refine' tk 10 ?_;refine' tk 11 ?_;refine' tk 12 ?_;refine' tk 13 ?_;refine stp 7 (fun K hK=> ?_);go_simp
  (with_reducible refine(cF.out _).mono ?_)
  rintro e w3 ⟨rfl,hb3⟩;have HP3:Hid (PagerAt w3 p F2 S):=HP2.out.ext (Ext.trans (by exact Xt) hb3);have HK3:Hid (Keeps F F2 w w3):=HK2.out.ext (Ext.trans (by exact Xt) hb3);clear hb3
  (try dsimp only)
  (try go_simp)
  refine hK.out _ _ (Nat.zero_le _) (fun hHeld=> ?_);clear hK K;refine pt ?_;refine' tk 8 ?_;refine' tk 14 ?_;refine stp 15 (fun K hK=> ?_);go_simp;rw[<-HRB.out]
  (with_reducible refine(cP.out _ _ HP3.out).mono ?_)
  rintro e w4 ⟨rfl,F4,hp4,k4⟩;have HP4:=hD hp4;have HK4:=hD (HK3.out.trans k4);clear hp4 k4
  (try dsimp only)
  (try go_simp)
  refine hK.out _ _ (Nat.zero_le _) (fun hHeld=> ?_);clear hK K;refine pt ?_;refine' tk 16 ?_;refine wpAnyH_done (by kernel_rfl) ?_ _;go_wp2_with fail;go_ret;exact⟨rfl,F4,HP4.out,HK4.out⟩
theorem Y4g(l:List UInt8):∀k,k<=l.length->Z5a (l.take k)=((List.range (8*k)).filter (hasL l)).length
 | 0,_=>by simp[Z5a]
 | k+1,hk=>by
   have ih:=Y4g l k (by omega);rw[Y4f l k l[k] (aB (by omega)),ih,show 8*(k+1)=8*k+8 by omega,List.range_add,List.filter_append,aA]
   congr 1
   unfold popN;rw[List.countP_eq_length_filter,List.filter_map,List.length_map]
   congr 1
   apply List.filter_congr;intro i hi;have hi:i<8:=by simpa using hi
   simp only[Function.comp,hasL];rw[show (8*k+i)/8=k by omega,show(8*k+i)%8=i by omega,aB (by omega)];rfl
def Z1w(S:StoreD)(n:Nat):Nat:=((List.range n).filter (Z0y S)).length
theorem Y2r(S:StoreD)(n:Nat):Z1w S n<=n:=by have:=List.length_filter_le (Z0y S) (List.range n);simpa [Z1w]using this
theorem Y2q(S:StoreD)(n:Nat):Z1w S (n+1)=Z1w S n+if Z0y S n=true then 1 else 0:=by unfold Z1w;rw[List.range_succ,List.filter_append,aA];by_cases h:Z0y S n=true<;>simp[h]
def Z0z(S:StoreD):Nat:=S.head.pages-Z1w S S.head.pages
theorem X9i{p:Nat}{F:Nat->Prop}{S:StoreD}(w:World)(h:PagerAt w p F S):
  Calls Tryz.prog 35 #[.pointer (some ⟨p,0,none⟩)] w fun e w'=>e= .returned (.int .i64 (Z0z S))/\∃F',PagerAt w' p F' S/\Keeps F F' w w':=by
 have cU:=Y1v w h;have hm:=h.most;have hsz:=h.size 0;have HT:Hid (∀k,Z1w S (k+1)=Z1w S k+if Z0y S k=true then 1 else 0):=Y2q S;have HTL:Hid (∀k,Z1w S k<=k):=Y2r S;have HU:Hid (∀k,Z0y S k=hasL (Z1a S 0).data.toList k):=fun k=>rfl;have HRM:Hid (Z0z S=S.head.pages-Z1w S S.head.pages):=rfl;obtain⟨N,hN⟩:∃N,S.head.pages=N:=⟨_,rfl⟩;have cL:Hid (∀W s Fs,StoreAt W s Fs S->Calls Tryz.prog 96 #[.pointer (some ⟨s,0,none⟩)] W fun e w'=>e= .returned (.int .i64 N)/\W=w'):=fun W s Fs hs=>by rw[<-hN];exact Z4w W hs
 obtain⟨v,hv⟩:∃v,Z1a S 0=v:=⟨_,rfl⟩;have hlen:v.data.toList.length=256:=by rw[<-hv];exact h.full.len 0
 have HC0:Hid (Z5a (v.data.toList.take (N/8))=Z1w S (8*(N/8))):=by unfold Hid;rw[Y4g _ _ (by omega),<-hv];rfl
 rw[hv]at cU hsz HU;rw[hN]at HRM hm;have cC:Hid (∀W,Calls Tryz.prog 97 #[.string (v.extract 0 (N/8))] W fun e w'=>e= .returned (.int .i64 (Z1w S (8*(N/8))))/\W=w'):=fun W=>by
  have h1:=V2s (v.extract 0 (N/8)) W (by rw[ByteArray.size_extract];omega);have e:(v.extract 0 (N/8)).data.toList=v.data.toList.take (N/8):=by simp
  rw[e,HC0.out]at h1;exact h1
 have cH:Hid (∀k W,k<N->Calls Tryz.prog 98 #[.string v,.int .i64 k] W fun e w'=>e= .returned (.bool (Z0y S k))/\W=w'):=fun k W hk=>by rw[HU.out];exact X1j v k W (by omega) (by omega)
 obtain⟨M,hM⟩:∃M,N/8=M:=⟨_,rfl⟩;rw[hM]at cC;have hM1:8*M<=N:=by omega
 have hM2:N<8*M+8:=by omega
 have u1:(N:Int).tdiv 8=(M:Int):=by rw[<-hM,Int.tdiv_eq_ediv_of_nonneg (by omega)];omega
 have u2:IntKind.i64.wrap (M:Int)=(M:Int):=by rw[IntKind.wrap_i64];omega
 have hsi:(v.size:Int)=256:=by omega
 have hMi:(M:Int)<=128:=by omega
 have htm:=HTL.out (8*M);clear h hN hv HU HC0 hlen hM;go_enter Tryz.func35,Tryz.ntmps35;go_wp2_with (first
  | (go_at_call 95;refine cU.mono ?_;clear cU;rintro e w1 ⟨rfl,F1,hp1,k1⟩;obtain⟨s1,Fs1,d1,hs1⟩:=hp1.open;have HP:=hD hp1;have HK:=hD k1;have cL1:=cL.out _ _ _ hs1;clear hp1 k1 hs1)
  | (go_at_call 96;refine cL1.mono ?_;clear cL1;rintro e w2 ⟨rfl,rfl⟩)
  | (go_at_call 97;(with_reducible refine(cC.out _).mono ?_);rintro e w3 ⟨rfl,rfl⟩))
 go_loop [6,7] (fun r i=>∃k:Nat,8*M<=k/\k<=N/\i= .int .i64 k/\r= .int .i64 ((N:Int)-Z1w S k)) (fun _ i=>N-(intOf i).toNat)
 case atStart=>exact⟨8*M,by omega,by omega,by go_num,by first | rfl | trivial⟩
 case round=>
  obtain⟨k,hk1,hk2,rfl,rfl⟩:=hrel;have htk:Z1w S k<=k:=HTL.out k;have HTk:=HT.out k;have HTK:Hid (Z1w S (k+1)=Z1w S k+if Z0y S k=true then 1 else 0):=HTk;clear HTk;by_cases hkl:k<N
  ·have q1:decide ((k:Int)<N)=true:=aN;have q1':decide (k<N)=true:=decide_eq_true hkl;have cHk:=cH.out k w1 hkl;generalize Z0y S k=b at HTK cHk;cases b
   ·go_wp2_with (go_at_call 98;(with_reducible refine cHk.mono ?_);rintro e w3 ⟨rfl,rfl⟩)
    go_round
    case rel=>exact⟨k+1,by omega,by omega,by go_num,by rw[HTK.out];simp⟩
    case measure=>simp[intOf];omega
   ·go_wp2_with (go_at_call 98;(with_reducible refine cHk.mono ?_);rintro e w3 ⟨rfl,rfl⟩)
    go_round
    case rel=>exact⟨k+1,by omega,by omega,by go_num,by rw[HTK.out];simp;omega⟩
    case measure=>simp[intOf];omega
  ·obtain rfl:k=N:=by omega
   go_wp2_with fail;go_ret;exact⟨Y2x (by rw[HRM.out];omega),F1,HP.out,HK.out⟩
def fmtU:ByteArray:=bts (Z6l (Z6l (List.replicate 256 0) 0 true) 1 true)
def fmtP(S:StoreD):StoreD:=putP (putP S 0 fmtU) 1 ⟨#[]⟩
theorem Y9t:fmtU.size=256:=by unfold fmtU;rw[Z0h,Z5e,Z5e,List.length_replicate]
theorem Z8v(S:StoreD)(n:Nat):Z0y (fmtP S) n=decide (n<2):=by
 unfold Z0y fmtP;rw[Z2b,if_neg (by omega),Z2b,if_pos rfl,Y3i _ Y9t];unfold fmtU;rw[Z1p,Y7s _ _ _ _ (by rw[Z5e,List.length_replicate];omega),Y7s _ _ _ _ (by rw[List.length_replicate];omega),V1h];by_cases h1:n=1
 ·simp[h1]
 ·by_cases h0:n=0
  ·simp[h0]
  ·rw[if_neg h1,if_neg h0];symm;exact decide_eq_false (by omega)
theorem V4c(S:StoreD)(i:Nat):Z1u (fmtP S) i=0:=by
 unfold Z1u fmtP;rw[Z2b,if_pos rfl,Y0o,<-Z7x,Y0m];have h:∀l:List UInt8,(∀x∈l,x=0)->∀k,upN l k=0:=fun l hl k=>by
  induction k with
  | zero=>rfl
  | succ k ih=>
    unfold upN;rw[ih];cases hq:l[k]? with
    | none=>simp
    | some x=>rw[hl x (List.mem_of_getElem? hq)];simp
 exact h _ (fun x hx=>List.eq_of_mem_replicate (List.mem_of_mem_take (List.mem_of_mem_drop hx))) _
theorem X0v{p:Nat}{F:Nat->Prop}{S:StoreD}(w:World)(h:PagerAt w p F S):
  Calls Tryz.prog 59 #[.pointer (some ⟨p,0,none⟩)] w fun e w'=>e= .returned (.int .i64 0)/\∃F',PagerAt w' p F' (fmtP S)/\Keeps F F' w w':=by
 have cM:=Z9f w h;obtain⟨s1,Fs1,d1,hs1⟩:=h.open;have cL:=Z4w w hs1;have hp2:=h.pages;have q0:decide ((S.head.pages:Int)<=2)=false:=aM;have HP:=hD h;have cE:Hid (∀W,Calls Tryz.prog 122 #[.int .i64 2048] W fun e w'=>e= .returned (.string zeroB)/\Ext W w'):=fun W=>V2h W;obtain⟨U,hU⟩:∃U:Nat->ByteArray,U=fun k=>if k=0 then zeroB else if k=1 then bts (Z6l (List.replicate 256 0) 0 true)else fmtU:=⟨_,rfl⟩;have HU0:Hid (U 0=zeroB):=by rw[hU];rfl
 have HU2:Hid (U 2=fmtU):=by rw[hU];rfl
 have cW:Hid (∀k W,k<2->Calls Tryz.prog 123 #[.string (U k),.int .i64 k,.bool true] W fun e w'=>e= .returned (.tuple #[.string (U (k+1)),.bool true])/\Ext W w'):=fun k W hk=>by
  rcases(by omega:k=0\/k=1)with rfl | rfl
  ·have h1:=Y1s zeroB 0 true W (by omega) (by rw[Z4i];omega) (by rw[Z4i];omega);rw[HU0.out,show U 1=bts (Z6l (List.replicate 256 0) 0 true)by rw[hU];rfl];rw[<-Z7x,Z1p]at h1;rw[<-Z7x];exact h1
  ·have e1:U 1=bts (Z6l (List.replicate 256 0) 0 true):=by rw[hU];rfl
   have h1:=Y1s (U 1) 1 true W (by omega) (by rw[e1,Z0h,Z5e,List.length_replicate];omega) (by rw[e1,Z0h,Z5e,List.length_replicate];omega);rw[HU2.out];rw[e1,Z1p]at h1;rw[e1];exact h1
 have cP0:Hid (∀W F1,PagerAt W p F1 S->Calls Tryz.prog 124 #[.pointer (some ⟨p,0,none⟩),.int .i64 0,.string (U 2)] W fun e w'=>e= .returned (.int .i64 0)/\∃F',PagerAt w' p F' (putP S 0 fmtU)/\Keeps F1 F' W w'):=fun W F1 hW=>by rw[HU2.out];exact Z3k 0 fmtU W hW (by omega) (by rw[Y9t];omega)
 have cP1:Hid (∀W F1,PagerAt W p F1 (putP S 0 fmtU)->Calls Tryz.prog 124 #[.pointer (some ⟨p,0,none⟩),.int .i64 1,.string ⟨#[]⟩] W fun e w'=>e= .returned (.int .i64 0)/\∃F',PagerAt w' p F' (fmtP S)/\Keeps F1 F' W w'):=fun W F1 hW=>Z3k 1 ⟨#[]⟩ W hW (by have:=hW.pages;omega) (by simp[ByteArray.size]);clear h hs1 hU;go_enter Tryz.func59,Tryz.ntmps59;go_wp2_with (first
  | (go_at_call 121;refine cM.mono ?_;clear cM;rintro e w1 ⟨rfl,rfl⟩)
  | (go_at_call 96;refine cL.mono ?_;clear cL;rintro e w2 ⟨rfl,rfl⟩)
  | (go_at_call 122;refine(cE.out _).mono ?_;rintro e w3 ⟨rfl,hb3⟩;have HB3:=hD hb3;clear hb3))
 rw[<-HU0.out]
 go_loopw [3,16] (fun u i wr=>∃k:Nat,k<=2/\i= .int .i64 k/\u= .string (U k)/\Ext w wr) (fun _ i _=>2-(intOf i).toNat)
 case atStart=>exact⟨0,by omega,rfl,rfl,HB3.out⟩
 case round=>
  obtain⟨k,hk,rfl,rfl,hx⟩:=hrel;have HX:=hD hx;clear hx;by_cases hkl:k<2
  ·have q1:decide ((k:Int)<2)=true:=aN;have cWk:=cW.out k wr hkl;go_wp2_with (go_at_call 123;(with_reducible refine cWk.mono ?_);rintro e w4 ⟨rfl,hb4⟩)
   go_roundw
   case rel=>exact⟨k+1,by omega,by go_num,rfl,Ext.trans HX.out hb4⟩
   case measure=>simp[intOf];omega
  ·obtain rfl:k=2:=by omega
   go_wp2_with (first
    | (go_at_call 124;(with_reducible refine(cP0.out _ _ (HP.out.ext HX.out)).mono ?_);clear cP0;rintro e w5 ⟨rfl,F5,hp5,k5⟩;have HP5:=hD hp5;have HK5:=hD ((Keeps.of HX.out).trans k5);clear hp5 k5)
    | (go_at_call 124;(with_reducible refine(cP1.out _ _ HP5.out).mono ?_);clear cP1;rintro e w6 ⟨rfl,F6,hp6,k6⟩;have HP6:=hD hp6;have HK6:=hD (HK5.out.trans k6);clear hp6 k6))
   go_ret;exact⟨rfl,F6,HP6.out,HK6.out⟩
theorem Y9d{s:Nat}{F:Nat->Prop}{S:StoreD}(w:World)(h:StoreAt w s F S)(hl:Live S)(hp:2<S.head.pages):
  Calls Tryz.prog 58 #[.pointer (some ⟨s,0,none⟩)] w fun e w'=>∃p F',e= .returned (.tuple #[.pointer (some ⟨p,0,none⟩),.int .i64 0])/\PagerAt w' p F' S/\Keeps F F' w w'/\w.heap.size<=p:=by
 have cR:=Z8z 0 w h hl (by omega);have cC:Hid (∀W,Calls Tryz.prog 120 #[.int .i64 64] W fun e w'=>∃c F,e= .returned (.tuple #[.pointer (some ⟨c,0,none⟩),.int .i64 0])/\CacheAt w' c F []/\Ext W w'/\∀i,F i->W.heap.size<=i):=fun W=>X0b W;have HH:=hD h.shrink;clear h;go_enter Tryz.func58,Tryz.ntmps58;go_wp2_with (first
  | (go_at_call 119;refine cR.mono ?_;clear cR;rintro e w1 ⟨rfl,hb1⟩;have HB1:=hD hb1;clear hb1)
  | (go_at_call 120;refine(cC.out _).mono ?_;rintro e w2 ⟨c,Fc,rfl,hc2,hb2,hf2⟩;have HC2:=hD hc2;have HB2:=hD (Ext.trans HB1.out hb2);have HF2:=hD hf2;have HZ1:=hD HB1.out.size;clear hc2 hb2 hf2))
 go_ret2
 have hx:Ext w2 (w2.alloc (.cells #[.pointer (some ⟨s,0,none⟩),.pointer (some ⟨c,0,none⟩)] 184)):=Ext.alloc _ _;have hX:=Ext.trans HB2.out hx;have hz:=HB2.out.size;obtain⟨lv,q1,q2,q3⟩:=HC2.out;refine⟨w2.heap.size,fun i=>i=w2.heap.size\/(F i/\i<w.heap.size)\/(Fc i/\i<w2.heap.size),rfl,⟨s,c,fun i=>F i/\i<w.heap.size,fun i=>Fc i/\i<w2.heap.size,[],⟨Row1.made _ _ _,HH.out.ext hX,CacheAt.ext ⟨lv,q1,⟨q2,q1.row.lt⟩,fun b e=>⟨q3 b e,(q1.own.lt b e).2⟩⟩ hx,CGood.nil S,hl,hp,fun i a b=> ?_,fun a=>by omega,fun a=>by omega,.inl rfl,fun i a=> .inr (.inl a),fun i a=> .inr (.inr a),fun i a=>aE a.2 hX.size,fun i a=>aE a.2 hx.size⟩⟩,⟨Only.of hX,fun i a=> ?_⟩,hz⟩
 ·have:=HF2.out i b.1;have:=HZ1.out;omega
 ·rcases a with a | a | a
  ·exact .inr (by omega)
  ·exact .inl a.1
  ·exact .inr (by have:=HF2.out i a.1;have:=HZ1.out;omega)
def encN(n:Int):List Value:= [.int .i64 n]
theorem Z0l(n:Int):(encN n).length=1:=rfl
theorem Z2n(n:Int):∀u∈encN n,u.oneCell'=true:=by intro u hu;simp only[encN,List.mem_cons,List.not_mem_nil,or_false]at hu;rcases hu with rfl;rfl
theorem Tryz.infoInt1:(Tryz.prog.info? 3).map (fun i=>(i.zero,i.size,i.bytes))=some (some (.int .i64 0),1,8):=by kernel_rfl
theorem elInt:Elem Tryz.prog 80 3 1 8:=Elem.of Tryz.underlying80 Tryz.infoInt1 rfl (by decide)
theorem Y6x:(Tryz.prog.info? 9).map (·.size)=some 1:=by kernel_rfl
theorem Y6y:(Tryz.prog.info? 3).map (·.size)=some 1:=by kernel_rfl
theorem Tryz.zeroStr1(w:World):(zeroValue 9).run Tryz.prog w= .ok (.string ⟨#[]⟩) w:=by kernel_rfl
theorem Tryz.zeroInt1(w:World):(zeroValue 3).run Tryz.prog w= .ok (.int .i64 0) w:=by kernel_rfl
section
variable {α:Type} {enc:α->List Value}
theorem Z0s(h:∀x,(enc x).length=1)(l:List α):(l.flatMap enc).length=l.length:=by rw[Z3t enc 1 h,Nat.mul_one]
theorem Z7v(h:∀x,(enc x).length=1):∀(l:List α) (i:Nat),(l.flatMap enc).take i=(l.take i).flatMap enc
 | [],i=>by simp
 | x::l,0=>by simp
 | x::l,i+1=>by rw[aI,List.take_append,h,List.take_of_length_le (by rw[h];omega),show i+1-1=i by omega,Z7v h l i,List.take_succ_cons,aI]
theorem Z4n(h:∀x,(enc x).length=1):∀(l:List α) (i:Nat),(l.flatMap enc).drop i=(l.drop i).flatMap enc
 | [],i=>by simp
 | x::l,0=>by simp
 | x::l,i+1=>by rw[aI,List.drop_append,h,List.drop_of_length_le (by rw[h];omega),show i+1-1=i by omega,Z4n h l i,List.drop_succ_cons,List.nil_append]
theorem Z5s(h1:∀x,∀u∈enc x,u.oneCell'=true)(l:List α):∀v∈l.flatMap enc,v.oneCell'=true:=fun v hv=>by obtain⟨x,_,hx⟩:=List.mem_flatMap.1 hv;exact h1 x v hx
def insL(l:List α)(i:Nat)(x:α):List α:=l.take i++x::l.drop i
theorem Z1b(l:List α)(i:Nat)(x:α):(insL l i x).length=l.length+1:=by unfold insL;simp;omega
theorem Z9l(h:∀x,(enc x).length=1)(l:List α)(i:Nat)(x:α):(insL l i x).flatMap enc=(l.flatMap enc).take i++enc x++(l.flatMap enc).drop i:=by unfold insL;rw[aH,aI,Z7v h,Z4n h,aG]
theorem X3p(L spare X:List Value)(i:Nat)(hi:i<=L.length)(hs:1<=spare.length)(hX:X.length=1):
  ((L++spare).take (i+1)++L.drop i++(L++spare).drop (i+1+(L.drop i).length)).take i++X++((L++spare).take (i+1)++L.drop i++(L++spare).drop (i+1+(L.drop i).length)).drop (i+X.length)=L.take i++X++L.drop i++spare.drop 1:=by
 have e0:((L++spare).take (i+1)).length=i+1:=by rw[aD,aA];omega
 have e1:(L++spare).drop (i+1+(L.drop i).length)=spare.drop 1:=by rw[aJ,show i+1+(L.length-i)=L.length+1 by omega,<-List.drop_drop,List.drop_left]
 rw[e1,hX,aG ((L++spare).take (i+1)),List.drop_left' e0,List.take_append_of_le_length (by omega),List.take_take,show min i (i+1)=i by omega,List.take_append_of_le_length hi,aG,aG,aG]
theorem X3q(L Z X:List Value)(i:Nat)(hi:i<=L.length)(hZ:L.length+1<=(L.take i++Z).length)(hX:X.length=1):
  ((L.take i++Z).take i++X++(L.take i++Z).drop (i+X.length)).take (i+1)++L.drop i++((L.take i++Z).take i++X++(L.take i++Z).drop (i+X.length)).drop (i+1+(L.drop i).length)=L.take i++X++L.drop i++Z.drop (L.length+1-i):=by
 have e0:(L.take i).length=i:=by rw[aD];omega
 have e1:(L.take i++X).length=i+1:=by rw[aA,e0,hX]
 have e2:(L.take i++Z).drop (i+1)=Z.drop 1:=by rw[<-List.drop_drop,List.drop_left' e0]
 rw[hX,List.take_left' e0,e2,List.take_left' e1,<-List.drop_drop,List.drop_left' e1,List.drop_drop,aJ]
 congr 2
 omega
end
end Go.Proofs.YtohaldfnmgcofaaGreat
