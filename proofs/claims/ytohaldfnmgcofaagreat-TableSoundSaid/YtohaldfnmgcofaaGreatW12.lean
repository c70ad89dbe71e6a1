/- A pager's Room, New, Format. Conditions: a pager in memory; a store in memory. -/
import Derived.Test.YtohaldfnmgcofaaGreatW11
set_option maxRecDepth 100000
set_option maxHeartbeats 4000000
set_option linter.unusedSimpArgs false
set_option linter.unusedVariables false
namespace Go.Proofs.YtohaldfnmgcofaaGreat
open Go.RowKit
theorem Y4y(l:List UInt8):∀k,k<=l.length->Z5k (l.take k)=((List.range (8*k)).filter (hasL l)).length
 | 0,_=>by simp[Z5k]
 | k+1,hk=>by
   have ih:=Y4y l k (by omega);rw[Y4x l k l[k] (aB (by omega)),ih,show 8*(k+1)=8*k+8 by omega,List.range_add,List.filter_append,aA]
   congr 1
   unfold popN;rw[List.countP_eq_length_filter,List.filter_map,List.length_map]
   congr 1
   apply List.filter_congr;intro i hi;have hi:i<8:=by simpa using hi
   simp only[Function.comp,hasL];rw[show (8*k+i)/8=k by omega,show(8*k+i)%8=i by omega,aB (by omega)];rfl
def Z1r(S:StoreD)(n:Nat):Nat:=((List.range n).filter (Z0z S)).length
theorem Z9o(S:StoreD)(n:Nat):Z1r S n<=n:=by have:=List.length_filter_le (Z0z S) (List.range n);simpa [Z1r]using this
theorem Y3i(S:StoreD)(n:Nat):Z1r S (n+1)=Z1r S n+if Z0z S n=true then 1 else 0:=by unfold Z1r;rw[List.range_succ,List.filter_append,aA];by_cases h:Z0z S n=true<;>simp[h]
def Z0x(S:StoreD):Nat:=S.head.pages-Z1r S S.head.pages
theorem Y3t{p:Nat}{F:Nat->Prop}{S:StoreD}(w:World)(h:PagerAt w p F S):
  Calls Tryz.prog 35 #[.pointer (some ⟨p,0,none⟩)] w fun e w'=>e= .returned (.int .i64 (Z0x S))/\∃F',PagerAt w' p F' S/\Keeps F F' w w':=by
 have cU:=Y2m w h;have hm:=h.most;have hsz:=h.size 0;have HT:Hid (∀k,Z1r S (k+1)=Z1r S k+if Z0z S k=true then 1 else 0):=Y3i S;have HTL:Hid (∀k,Z1r S k<=k):=Z9o S;have HU:Hid (∀k,Z0z S k=hasL (Z1a S 0).data.toList k):=fun k=>rfl;have HRM:Hid (Z0x S=S.head.pages-Z1r S S.head.pages):=rfl;obtain⟨N,hN⟩:∃N,S.head.pages=N:=⟨_,rfl⟩;have cL:Hid (∀W s Fs,StoreAt W s Fs S->Calls Tryz.prog 96 #[.pointer (some ⟨s,0,none⟩)] W fun e w'=>e= .returned (.int .i64 N)/\W=w'):=fun W s Fs hs=>by rw[<-hN];exact Z5g W hs
 obtain⟨v,hv⟩:∃v,Z1a S 0=v:=⟨_,rfl⟩;have hlen:v.data.toList.length=256:=by rw[<-hv];exact h.full.len 0
 have HC0:Hid (Z5k (v.data.toList.take (N/8))=Z1r S (8*(N/8))):=by unfold Hid;rw[Y4y _ _ (by omega),<-hv];rfl
 rw[hv]at cU hsz HU;rw[hN]at HRM hm;have cC:Hid (∀W,Calls Tryz.prog 97 #[.string (v.extract 0 (N/8))] W fun e w'=>e= .returned (.int .i64 (Z1r S (8*(N/8))))/\W=w'):=fun W=>by
  have h1:=V3z (v.extract 0 (N/8)) W (by rw[ByteArray.size_extract];omega);have e:(v.extract 0 (N/8)).data.toList=v.data.toList.take (N/8):=by simp
  rw[e,HC0.out]at h1;exact h1
 have cH:Hid (∀k W,k<N->Calls Tryz.prog 98 #[.string v,.int .i64 k] W fun e w'=>e= .returned (.bool (Z0z S k))/\W=w'):=fun k W hk=>by rw[HU.out];exact X2j v k W (by omega) (by omega)
 obtain⟨M,hM⟩:∃M,N/8=M:=⟨_,rfl⟩;rw[hM]at cC;have hM1:8*M<=N:=by omega
 have hM2:N<8*M+8:=by omega
 have u1:(N:Int).tdiv 8=(M:Int):=by rw[<-hM,Int.tdiv_eq_ediv_of_nonneg (by omega)];omega
 have u2:IntKind.i64.wrap (M:Int)=(M:Int):=by rw[IntKind.wrap_i64];omega
 have hsi:(v.size:Int)=256:=by omega
 have hMi:(M:Int)<=128:=by omega
 have htm:=HTL.out (8*M);clear h hN hv HU HC0 hlen hM;go_enter Tryz.func35,Tryz.ntmps35;go_wp2_with (first
  | (go_at_call 95;refine cU.mono ?_;clear cU;rintro e w1 ⟨rfl,F1,hp1,k1⟩;obtain⟨s1,Fs1,d1,hs1⟩:=hp1.open;have HP:=hD hp1;have HK:=hD k1;have cL1:=cL.out _ _ _ hs1;clear hp1 k1 hs1)
  | (go_at_call 96;refine cL1.mono ?_;clear cL1;rintro e w2 ⟨rfl,rfl⟩)
  | (go_at_call 97;(with_reducible refine(cC.out _).mono ?_);rintro e w3 ⟨rfl,rfl⟩))
 go_loop [6,7] (fun r i=>∃k:Nat,8*M<=k/\k<=N/\i= .int .i64 k/\r= .int .i64 ((N:Int)-Z1r S k)) (fun _ i=>N-(intOf i).toNat)
 case atStart=>exact⟨8*M,by omega,by omega,by go_num,by first | rfl | trivial⟩
 case round=>
  obtain⟨k,hk1,hk2,rfl,rfl⟩:=hrel;have htk:Z1r S k<=k:=HTL.out k;have HTk:=HT.out k;have HTK:Hid (Z1r S (k+1)=Z1r S k+if Z0z S k=true then 1 else 0):=HTk;clear HTk;by_cases hkl:k<N
  ·have q1:decide ((k:Int)<N)=true:=aN;have q1':decide (k<N)=true:=decide_eq_true hkl;have cHk:=cH.out k w1 hkl;generalize Z0z S k=b at HTK cHk;cases b
   ·go_wp2_with (go_at_call 98;(with_reducible refine cHk.mono ?_);rintro e w3 ⟨rfl,rfl⟩)
    go_round
    case rel=>exact⟨k+1,by omega,by omega,by go_num,by rw[HTK.out];simp⟩
    case measure=>simp[intOf];omega
   ·go_wp2_with (go_at_call 98;(with_reducible refine cHk.mono ?_);rintro e w3 ⟨rfl,rfl⟩)
    go_round
    case rel=>exact⟨k+1,by omega,by omega,by go_num,by rw[HTK.out];simp;omega⟩
    case measure=>simp[intOf];omega
  ·obtain rfl:k=N:=by omega
   go_wp2_with fail;go_ret;exact⟨Y3o (by rw[HRM.out];omega),F1,HP.out,HK.out⟩
def fmtU:ByteArray:=bts (Z6v (Z6v (List.replicate 256 0) 0 true) 1 true)
def fmtP(S:StoreD):StoreD:=putP (putP S 0 fmtU) 1 ⟨#[]⟩
theorem X0q:fmtU.size=256:=by unfold fmtU;rw[Z0h,Z5o,Z5o,List.length_replicate]
theorem Z9k(S:StoreD)(n:Nat):Z0z (fmtP S) n=decide (n<2):=by
 unfold Z0z fmtP;rw[Z2c,if_neg (by omega),Z2c,if_pos rfl,Y4a _ X0q];unfold fmtU;rw[Z1p,Y8k _ _ _ _ (by rw[Z5o,List.length_replicate];omega),Y8k _ _ _ _ (by rw[List.length_replicate];omega),V2p];by_cases h1:n=1
 ·simp[h1]
 ·by_cases h0:n=0
  ·simp[h0]
  ·rw[if_neg h1,if_neg h0];symm;exact decide_eq_false (by omega)
theorem V5j(S:StoreD)(i:Nat):Z1x (fmtP S) i=0:=by
 unfold Z1x fmtP;rw[Z2c,if_pos rfl,Y1f,<-Z8k,Y1d];have h:∀l:List UInt8,(∀x∈l,x=0)->∀k,upN l k=0:=fun l hl k=>by
  induction k with
  | zero=>rfl
  | succ k ih=>
    unfold upN;rw[ih];cases hq:l[k]? with
    | none=>simp
    | some x=>rw[hl x (List.mem_of_getElem? hq)];simp
 exact h _ (fun x hx=>List.eq_of_mem_replicate (List.mem_of_mem_take (List.mem_of_mem_drop hx))) _
theorem X1u{p:Nat}{F:Nat->Prop}{S:StoreD}(w:World)(h:PagerAt w p F S):
  Calls Tryz.prog 59 #[.pointer (some ⟨p,0,none⟩)] w fun e w'=>e= .returned (.int .i64 0)/\∃F',PagerAt w' p F' (fmtP S)/\Keeps F F' w w':=by
 have cM:=Z9v w h;obtain⟨s1,Fs1,d1,hs1⟩:=h.open;have cL:=Z5g w hs1;have hp2:=h.pages;have q0:decide ((S.head.pages:Int)<=2)=false:=aM;have HP:=hD h;have cE:Hid (∀W,Calls Tryz.prog 122 #[.int .i64 2048] W fun e w'=>e= .returned (.string zeroB)/\Ext W w'):=fun W=>V3o W;obtain⟨U,hU⟩:∃U:Nat->ByteArray,U=fun k=>if k=0 then zeroB else if k=1 then bts (Z6v (List.replicate 256 0) 0 true)else fmtU:=⟨_,rfl⟩;have HU0:Hid (U 0=zeroB):=by rw[hU];rfl
 have HU2:Hid (U 2=fmtU):=by rw[hU];rfl
 have cW:Hid (∀k W,k<2->Calls Tryz.prog 123 #[.string (U k),.int .i64 k,.bool true] W fun e w'=>e= .returned (.tuple #[.string (U (k+1)),.bool true])/\Ext W w'):=fun k W hk=>by
  rcases(by omega:k=0\/k=1)with rfl | rfl
  ·have h1:=Y2k zeroB 0 true W (by omega) (by rw[Z4q];omega) (by rw[Z4q];omega);rw[HU0.out,show U 1=bts (Z6v (List.replicate 256 0) 0 true)by rw[hU];rfl];rw[<-Z8k,Z1p]at h1;rw[<-Z8k];exact h1
  ·have e1:U 1=bts (Z6v (List.replicate 256 0) 0 true):=by rw[hU];rfl
   have h1:=Y2k (U 1) 1 true W (by omega) (by rw[e1,Z0h,Z5o,List.length_replicate];omega) (by rw[e1,Z0h,Z5o,List.length_replicate];omega);rw[HU2.out];rw[e1,Z1p]at h1;rw[e1];exact h1
 have cP0:Hid (∀W F1,PagerAt W p F1 S->Calls Tryz.prog 124 #[.pointer (some ⟨p,0,none⟩),.int .i64 0,.string (U 2)] W fun e w'=>e= .returned (.int .i64 0)/\∃F',PagerAt w' p F' (putP S 0 fmtU)/\Keeps F1 F' W w'):=fun W F1 hW=>by rw[HU2.out];exact Z3p 0 fmtU W hW (by omega) (by rw[X0q];omega)
 have cP1:Hid (∀W F1,PagerAt W p F1 (putP S 0 fmtU)->Calls Tryz.prog 124 #[.pointer (some ⟨p,0,none⟩),.int .i64 1,.string ⟨#[]⟩] W fun e w'=>e= .returned (.int .i64 0)/\∃F',PagerAt w' p F' (fmtP S)/\Keeps F1 F' W w'):=fun W F1 hW=>Z3p 1 ⟨#[]⟩ W hW (by have:=hW.pages;omega) (by simp[ByteArray.size]);clear h hs1 hU;go_enter Tryz.func59,Tryz.ntmps59;go_wp2_with (first
  | (go_at_call 121;refine cM.mono ?_;clear cM;rintro e w1 ⟨rfl,rfl⟩)
  | (go_at_call 96;refine cL.mono ?_;clear cL;rintro e w2 ⟨rfl,rfl⟩)
  | (go_at_call 122;refine(cE.out _).mono ?_;rintro e w3 ⟨rfl,hb3⟩;have HB3:=hD hb3;clear hb3))
 rw[<-HU0.out]
 go_loopw [3,16] (fun u i wr=>∃k:Nat,k<=2/\i= .int .i64 k/\u= .string (U k)/\Ext w wr) (fun _ i _=>2-(intOf i).toNat)
 case atStart=>exact⟨0,by omega,rfl,rfl,HB3.out⟩
 case round=>
  obtain⟨k,hk,rfl,rfl,hx⟩:=hrel;have HX:=hD hx;clear hx;by_cases hkl:k<2
  ·have q1:decide ((k:Int)<2)=true:=aN;have cWk:=cW.out k wr hkl;go_wp2_with (go_at_call 123;(with_reducible refine cWk.mono ?_);rintro e w4 ⟨rfl,hb4⟩)
   go_roundw
   case rel=>exact⟨k+1,by omega,by go_num,rfl,Ext.trans HX.out hb4⟩
   case measure=>simp[intOf];omega
  ·obtain rfl:k=2:=by omega
   go_wp2_with (first
    | (go_at_call 124;(with_reducible refine(cP0.out _ _ (HP.out.ext HX.out)).mono ?_);clear cP0;rintro e w5 ⟨rfl,F5,hp5,k5⟩;have HP5:=hD hp5;have HK5:=hD ((Keeps.of HX.out).trans k5);clear hp5 k5)
    | (go_at_call 124;(with_reducible refine(cP1.out _ _ HP5.out).mono ?_);clear cP1;rintro e w6 ⟨rfl,F6,hp6,k6⟩;have HP6:=hD hp6;have HK6:=hD (HK5.out.trans k6);clear hp6 k6))
   go_ret;exact⟨rfl,F6,HP6.out,HK6.out⟩
theorem Y9x{s:Nat}{F:Nat->Prop}{S:StoreD}(w:World)(h:StoreAt w s F S)(hl:Live S)(hp:2<S.head.pages):
  Calls Tryz.prog 58 #[.pointer (some ⟨s,0,none⟩)] w fun e w'=>∃p F',e= .returned (.tuple #[.pointer (some ⟨p,0,none⟩),.int .i64 0])/\PagerAt w' p F' S/\Keeps F F' w w'/\w.heap.size<=p:=by
 have cR:=Z9p 0 w h hl (by omega);have cC:Hid (∀W,Calls Tryz.prog 120 #[.int .i64 64] W fun e w'=>∃c F,e= .returned (.tuple #[.pointer (some ⟨c,0,none⟩),.int .i64 0])/\CacheAt w' c F []/\Ext W w'/\∀i,F i->W.heap.size<=i):=fun W=>X0x W;have HH:=hD h.shrink;clear h;go_enter Tryz.func58,Tryz.ntmps58;go_wp2_with (first
  | (go_at_call 119;refine cR.mono ?_;clear cR;rintro e w1 ⟨rfl,hb1⟩;have HB1:=hD hb1;clear hb1)
  | (go_at_call 120;refine(cC.out _).mono ?_;rintro e w2 ⟨c,Fc,rfl,hc2,hb2,hf2⟩;have HC2:=hD hc2;have HB2:=hD (Ext.trans HB1.out hb2);have HF2:=hD hf2;have HZ1:=hD HB1.out.size;clear hc2 hb2 hf2))
 go_ret2
 have hx:Ext w2 (w2.alloc (.cells #[.pointer (some ⟨s,0,none⟩),.pointer (some ⟨c,0,none⟩)] 184)):=Ext.alloc _ _;have hX:=Ext.trans HB2.out hx;have hz:=HB2.out.size;obtain⟨lv,q1,q2,q3⟩:=HC2.out;refine⟨w2.heap.size,fun i=>i=w2.heap.size\/(F i/\i<w.heap.size)\/(Fc i/\i<w2.heap.size),rfl,⟨s,c,fun i=>F i/\i<w.heap.size,fun i=>Fc i/\i<w2.heap.size,[],⟨Row1.made _ _ _,HH.out.ext hX,CacheAt.ext ⟨lv,q1,⟨q2,q1.row.lt⟩,fun b e=>⟨q3 b e,(q1.own.lt b e).2⟩⟩ hx,CGood.nil S,hl,hp,fun i a b=> ?_,fun a=>by omega,fun a=>by omega,.inl rfl,fun i a=> .inr (.inl a),fun i a=> .inr (.inr a),fun i a=>aE a.2 hX.size,fun i a=>aE a.2 hx.size⟩⟩,⟨Only.of hX,fun i a=> ?_⟩,hz⟩
 ·have:=HF2.out i b.1;have:=HZ1.out;omega
 ·rcases a with a | a | a
  ·exact .inr (by omega)
  ·exact .inl a.1
  ·exact .inr (by have:=HF2.out i a.1;have:=HZ1.out;omega)
def encN(n:Int):List Value:= [.int .i64 n]
theorem Z0i(n:Int):(encN n).length=1:=rfl
theorem Z2o(n:Int):∀u∈encN n,u.oneCell'=true:=by intro u hu;simp only[encN,List.mem_cons,List.not_mem_nil,or_false]at hu;rcases hu with rfl;rfl
theorem Tryz.infoInt1:(Tryz.prog.info? 3).map (fun i=>(i.zero,i.size,i.bytes))=some (some (.int .i64 0),1,8):=by kernel_rfl
theorem elInt:Elem Tryz.prog 80 3 1 8:=Elem.of Tryz.underlying80 Tryz.infoInt1 rfl (by decide)
theorem Y7p:(Tryz.prog.info? 9).map (·.size)=some 1:=by kernel_rfl
theorem Y7q:(Tryz.prog.info? 3).map (·.size)=some 1:=by kernel_rfl
theorem Tryz.zeroStr1(w:World):(zeroValue 9).run Tryz.prog w= .ok (.string ⟨#[]⟩) w:=by kernel_rfl
theorem Tryz.zeroInt1(w:World):(zeroValue 3).run Tryz.prog w= .ok (.int .i64 0) w:=by kernel_rfl
section
variable {α:Type} {enc:α->List Value}
theorem Z0s(h:∀x,(enc x).length=1)(l:List α):(l.flatMap enc).length=l.length:=by rw[Z3z enc 1 h,Nat.mul_one]
theorem Z8j(h:∀x,(enc x).length=1):∀(l:List α) (i:Nat),(l.flatMap enc).take i=(l.take i).flatMap enc
 | [],i=>by simp
 | x::l,0=>by simp
 | x::l,i+1=>by rw[aI,List.take_append,h,List.take_of_length_le (by rw[h];omega),show i+1-1=i by omega,Z8j h l i,List.take_succ_cons,aI]
theorem Z4v(h:∀x,(enc x).length=1):∀(l:List α) (i:Nat),(l.flatMap enc).drop i=(l.drop i).flatMap enc
 | [],i=>by simp
 | x::l,0=>by simp
 | x::l,i+1=>by rw[aI,List.drop_append,h,List.drop_of_length_le (by rw[h];omega),show i+1-1=i by omega,Z4v h l i,List.drop_succ_cons,List.nil_append]
theorem Z6c(h1:∀x,∀u∈enc x,u.oneCell'=true)(l:List α):∀v∈l.flatMap enc,v.oneCell'=true:=fun v hv=>by obtain⟨x,_,hx⟩:=List.mem_flatMap.1 hv;exact h1 x v hx
def insL(l:List α)(i:Nat)(x:α):List α:=l.take i++x::l.drop i
theorem Z1b(l:List α)(i:Nat)(x:α):(insL l i x).length=l.length+1:=by unfold insL;simp;omega
theorem Y0a(h:∀x,(enc x).length=1)(l:List α)(i:Nat)(x:α):(insL l i x).flatMap enc=(l.flatMap enc).take i++enc x++(l.flatMap enc).drop i:=by unfold insL;rw[aH,aI,Z8j h,Z4v h,aG]
theorem X4w(L spare X:List Value)(i:Nat)(hi:i<=L.length)(hs:1<=spare.length)(hX:X.length=1):
  ((L++spare).take (i+1)++L.drop i++(L++spare).drop (i+1+(L.drop i).length)).take i++X++((L++spare).take (i+1)++L.drop i++(L++spare).drop (i+1+(L.drop i).length)).drop (i+X.length)=L.take i++X++L.drop i++spare.drop 1:=by
 have e0:((L++spare).take (i+1)).length=i+1:=by rw[aD,aA];omega
 have e1:(L++spare).drop (i+1+(L.drop i).length)=spare.drop 1:=by rw[aJ,show i+1+(L.length-i)=L.length+1 by omega,<-List.drop_drop,List.drop_left]
 rw[e1,hX,aG ((L++spare).take (i+1)),List.drop_left' e0,List.take_append_of_le_length (by omega),List.take_take,show min i (i+1)=i by omega,List.take_append_of_le_length hi,aG,aG,aG]
theorem X4x(L Z X:List Value)(i:Nat)(hi:i<=L.length)(hZ:L.length+1<=(L.take i++Z).length)(hX:X.length=1):
  ((L.take i++Z).take i++X++(L.take i++Z).drop (i+X.length)).take (i+1)++L.drop i++((L.take i++Z).take i++X++(L.take i++Z).drop (i+X.length)).drop (i+1+(L.drop i).length)=L.take i++X++L.drop i++Z.drop (L.length+1-i):=by
 have e0:(L.take i).length=i:=by rw[aD];omega
 have e1:(L.take i++X).length=i+1:=by rw[aA,e0,hX]
 have e2:(L.take i++Z).drop (i+1)=Z.drop 1:=by rw[<-List.drop_drop,List.drop_left' e0]
 rw[hX,List.take_left' e0,e2,List.take_left' e1,<-List.drop_drop,List.drop_left' e1,List.drop_drop,aJ]
 congr 2
 omega
end
end Go.Proofs.YtohaldfnmgcofaaGreat
