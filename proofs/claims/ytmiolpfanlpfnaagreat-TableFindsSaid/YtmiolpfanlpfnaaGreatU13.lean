/- A pager's used, check, Get, Set, Root. Conditions: a pager in memory. -/
import Derived.Test.YtmiolpfanlpfnaaGreatU12
set_option maxRecDepth 100000
set_option maxHeartbeats 4000000
set_option linter.unusedSimpArgs false
set_option linter.unusedVariables false
namespace Go.Proofs.YtmiolpfanlpfnaaGreat
open Go.RowKit
theorem PagerAt.open{w:World}{p:Nat}{F:Nat→Prop}{S:StoreD}(h:PagerAt w p F S):∃s Fs,w.cell? ⟨p,0,none⟩=some (.pointer (some ⟨s,0,none⟩))∧StoreAt w s Fs S:=by
 obtain⟨s,c,Fs,Fc,l,h⟩:=h
 exact⟨s,Fs,h.row.cell 0,h.store⟩
def Z0y(S:StoreD)(n:Nat):Bool:=hasL (Z1a S 0).data.toList n
def Z1v(S:StoreD)(i:Nat):Nat:=Z2s (Z1a S 1) (4*i) (4*i+4)
def Z0r(S:StoreD)(n:Nat):Prop:=2≤n∧n<S.head.pages∧Z0y S n=true
instance (S:StoreD) (n:Nat):Decidable (Z0r S n):=by unfold Z0r;exact inferInstance
theorem Z9g{p:Nat}{F:Nat→Prop}{S:StoreD}(w:World)(h:PagerAt w p F S):Calls Tryz.prog 112 #[.pointer (some ⟨p,0,none⟩)] w fun e w'=>e= .returned (.bool true)∧w=w':=by
 obtain⟨s,Fs,c0,_⟩:=h.open
 clear h
 go_enter Tryz.func112,Tryz.ntmps112
 go_wp2_with fail
 go_ret
 exact⟨rfl,rfl⟩
theorem Y1y{p:Nat}{F:Nat→Prop}{S:StoreD}(w:World)(h:PagerAt w p F S):
  Calls Tryz.prog 214 #[.pointer (some ⟨p,0,none⟩)] w fun e w'=>e= .returned (.tuple #[.string (Z1a S 0),.int .i64 0])∧∃F',PagerAt w' p F' S∧Keeps F F' w w':=by
 have cM:=Z9g w h
 have cR:=Z9f 0 w h (by have:=h.pages;omega)
 clear h
 go_enter Tryz.func214,Tryz.ntmps214
 go_wp2_with (first | (go_at_call 112;refine cM.mono ?_;clear cM;rintro e w1 ⟨rfl,rfl⟩) | (go_at_call 209;refine cR.mono ?_;clear cR;rintro e w2 ⟨rfl,F2,h2,k2⟩))
 go_ret2
 exact⟨rfl,F2,h2,k2⟩
theorem Y2k{p:Nat}{F:Nat→Prop}{S:StoreD}(n:Nat)(w:World)(h:PagerAt w p F S)(hn:Z0r S n):
  Calls Tryz.prog 218 #[.pointer (some ⟨p,0,none⟩),.int .i64 n] w fun e w'=>e= .returned (.int .i64 0)∧∃F',PagerAt w' p F' S∧Keeps F F' w w':=by
 have cU:=Y1y w h
 obtain⟨h1,h2,h3⟩:=hn
 have hm:=h.most
 have q1:decide ((n:Int)<2)=false:=decide_eq_false (by omega)
 have q2:decide ((S.head.pages:Int)≤n)=false:=decide_eq_false (by omega)
 have q2':decide (S.head.pages≤n)=false:=decide_eq_false (by omega)
 have cH:Hid (∀W,Calls Tryz.prog 260 #[.string (Z1a S 0),.int .i64 n] W fun e w'=>e= .returned (.bool true)∧W=w'):=fun W=>by
  have:=X1z (Z1a S 0) n W (by omega) (by rw[h.size];omega)
  rw[show hasL (Z1a S 0).data.toList n=true from h3]at this
  exact this
 obtain⟨N,hN⟩:∃N,S.head.pages=N:=⟨_,rfl⟩
 have cL:Hid (∀W s Fs,StoreAt W s Fs S→Calls Tryz.prog 113 #[.pointer (some ⟨s,0,none⟩)] W fun e w'=>e= .returned (.int .i64 N)∧W=w'):=fun W s Fs hs=>by rw[←hN];exact Z4x W hs
 rw[hN]at q2 q2'
 clear h hN h3
 go_enter Tryz.func218,Tryz.ntmps218
 go_wp2_with (first
  | (go_at_call 214;refine cU.mono ?_;clear cU;rintro e w1 ⟨rfl,F1,hp1,k1⟩;obtain⟨s1,Fs1,d1,hs1⟩:=hp1.open;have HP:=hD hp1;have HK:=hD k1;have cL1:=cL.out _ _ _ hs1;clear hp1 k1 hs1)
  | (go_at_call 113;refine cL1.mono ?_;clear cL1;rintro e w2 ⟨rfl,rfl⟩)
  | (go_at_call 260;refine(cH.out _).mono ?_;rintro e w3 ⟨rfl,rfl⟩))
 go_ret
 exact⟨rfl,F1,HP.out,HK.out⟩
theorem V5g{p:Nat}{F:Nat→Prop}{S:StoreD}(n:Nat)(w:World)(h:PagerAt w p F S)(hn:Z0r S n):
  Calls Tryz.prog 226 #[.pointer (some ⟨p,0,none⟩),.int .i64 n] w fun e w'=>e= .returned (.tuple #[.string (Z1a S n),.int .i64 0])∧∃F',PagerAt w' p F' S∧Keeps F F' w w':=by
 have cC:=Y2k n w h hn
 have cR:Hid (∀W F1,PagerAt W p F1 S→Calls Tryz.prog 209 #[.pointer (some ⟨p,0,none⟩),.int .i64 n] W fun e w'=>e= .returned (.tuple #[.string (Z1a S n),.int .i64 0])∧∃F',PagerAt w' p F' S∧Keeps F1 F' W w'):=fun W F1 hW=>Z9f n W hW hn.2.1
 clear h hn
 go_enter Tryz.func226,Tryz.ntmps226
 go_wp2_with (first | (go_at_call 218;refine cC.mono ?_;clear cC;rintro e w1 ⟨rfl,F1,h1,k1⟩) | (go_at_call 209;refine(cR.out _ _ h1).mono ?_;rintro e w2 ⟨rfl,F2,h2,k2⟩))
 go_ret2
 exact⟨rfl,F2,h2,k1.trans k2⟩
theorem V5d{p:Nat}{F:Nat→Prop}{S:StoreD}(n:Nat)(d:ByteArray)(w:World)(h:PagerAt w p F S)(hn:Z0r S n)(hd:d.size≤256):
  Calls Tryz.prog 216 #[.pointer (some ⟨p,0,none⟩),.int .i64 n,.string d] w fun e w'=>e= .returned (.int .i64 0)∧∃F',PagerAt w' p F' (putP S n d)∧Keeps F F' w w':=by
 have cC:=Y2k n w h hn
 have cR:Hid (∀W F1,PagerAt W p F1 S→Calls Tryz.prog 116 #[.pointer (some ⟨p,0,none⟩),.int .i64 n,.string d] W fun e w'=>e= .returned (.int .i64 0)∧∃F',PagerAt w' p F' (putP S n d)∧Keeps F1 F' W w'):=fun W F1 hW=>Z3l n d W hW hn.2.1 hd
 clear h hn
 go_enter Tryz.func216,Tryz.ntmps216
 go_wp2_with (first | (go_at_call 218;refine cC.mono ?_;clear cC;rintro e w1 ⟨rfl,F1,h1,k1⟩) | (go_at_call 116;refine(cR.out _ _ h1).mono ?_;rintro e w2 ⟨rfl,F2,h2,k2⟩))
 go_ret
 exact⟨rfl,F2,h2,k1.trans k2⟩
theorem Y7b{p:Nat}{F:Nat→Prop}{S:StoreD}(i:Nat)(w:World)(h:PagerAt w p F S)(hi:i<16):
  Calls Tryz.prog 170 #[.pointer (some ⟨p,0,none⟩),.int .i64 i] w fun e w'=>e= .returned (.tuple #[.int .i64 (Z1v S i),.int .i64 0])∧∃F',PagerAt w' p F' S∧Keeps F F' w w':=by
 have cM:=Z9g w h
 have cR:=Z9f 1 w h (by have:=h.pages;omega)
 have hsz:=h.size 1
 have HR:Hid (Z1v S i=Z2s (Z1a S 1) (4*i) (4*i+4)):=rfl
 generalize Z1a S 1=v at cR hsz HR
 have cU:Hid (∀W,Calls Tryz.prog 162 #[.string (v.extract (4*i) (4*i+4))] W fun e w'=>e= .returned (.int .u64 (Z1v S i))∧W=w'):=fun W=>by rw[HR.out];exact Z8i (v.extract (4*i) (4*i+4)) (by rw[ByteArray.size_extract];omega) W
 have hlt:Z1v S i<4294967296:=by rw[HR.out];exact X3t v (4*i) (by omega)
 generalize Z1v S i=r at cU hlt ⊢
 have q1:decide ((i:Int)<0)=false:=decide_eq_false (by omega)
 have q2:decide ((16:Int)≤i)=false:=decide_eq_false (by omega)
 have hs1:(v.size:Int)=256:=by omega
 clear h HR
 go_enter Tryz.func170,Tryz.ntmps170
 go_wp2_with (first | (go_at_call 112;refine cM.mono ?_;clear cM;rintro e w1 ⟨rfl,rfl⟩) | (go_at_call 209;refine cR.mono ?_;clear cR;rintro e w2 ⟨rfl,F2,h2,k2⟩) | (go_at_call 162;refine(cU.out _).mono ?_;rintro e w3 ⟨rfl,rfl⟩))
 go_ret2
 exact⟨rfl,F2,h2,k2⟩
theorem Y3h(s:ByteArray)(h:s.size=256):padB s=s:=by
 unfold padB
 rw[h]
 have:zeroB.extract 256 256=ByteArray.empty:=by rw[ByteArray.ext_iff,ByteArray.data_extract];simp[zeroB]
 rw[this,ByteArray.append_empty]
def useP(S:StoreD)(n:Nat)(b:Bool):StoreD:=putP S 0 (bts (Z6l (Z1a S 0).data.toList n b))
def Z1e(S:StoreD)(n:Nat):StoreD:=putP (useP S n true) n ⟨#[]⟩
def FullV(S:StoreD):Prop:=∀n,(Z1a S n).size=256
theorem PagerAt.full{w:World}{p:Nat}{F:Nat→Prop}{S:StoreD}(h:PagerAt w p F S):FullV S:=fun n=>h.size n
theorem FullV.len{S:StoreD}(h:FullV S)(n:Nat):(Z1a S n).data.toList.length=256:=by rw[Array.length_toList];exact h n
theorem Z8x{S:StoreD}(h:FullV S)(n:Nat)(b:Bool):(bts (Z6l (Z1a S 0).data.toList n b)).size=256:=by rw[Z0h,Z5e,h.len]
theorem X2t{S:StoreD}(h:FullV S)(n:Nat)(b:Bool)(i:Nat)(hi:i≠0):Z1a (useP S n b) i=Z1a S i:=by unfold useP;rw[Z2b,if_neg hi]
theorem X8i{S:StoreD}(h:FullV S)(n:Nat)(b:Bool):Z1a (useP S n b) 0=bts (Z6l (Z1a S 0).data.toList n b):=by
 unfold useP
 rw[Z2b,if_pos rfl,Y3h _ (Z8x h n b)]
theorem X2v{S:StoreD}(h:FullV S){n:Nat}(hn:n<2048)(b:Bool)(i:Nat):Z0y (useP S n b) i=if i=n then b else Z0y S i:=by
 unfold Z0y
 rw[X8i h,Z1o,Y7w _ _ _ _ (by rw[h.len];omega)]
theorem Z8w{S:StoreD}{n:Nat}(hn:n≠0)(s:ByteArray)(i:Nat):Z0y (putP S n s) i=Z0y S i:=by unfold Z0y;rw[Z2b,if_neg (by omega)]
theorem Y7a{S:StoreD}{n:Nat}(hn:n≠1)(s:ByteArray)(i:Nat):Z1v (putP S n s) i=Z1v S i:=by unfold Z1v;rw[Z2b,if_neg (by omega)]
theorem X3e{S:StoreD}(n:Nat)(b:Bool)(i:Nat):Z1v (useP S n b) i=Z1v S i:=Y7a (by omega) _ _
theorem V6t(S:StoreD)(n:Nat)(b:Bool):(useP S n b).head=S.head:=rfl
theorem Y5f{S:StoreD}(h:FullV S){n:Nat}(h0:n≠0)(hn:n<2048)(i:Nat):Z0y (Z1e S n) i=if i=n then true else Z0y S i:=by
 unfold Z1e
 rw[Z8w h0,X2v h hn]
theorem X5z{S:StoreD}{n:Nat}(h0:n≠1)(i:Nat):Z1v (Z1e S n) i=Z1v S i:=by unfold Z1e;rw[Y7a h0,X3e]
theorem X5k{S:StoreD}(h:FullV S)(n i:Nat)(hi:i≠0):Z1a (Z1e S n) i=if i=n then zeroB else Z1a S i:=by
 unfold Z1e
 rw[Z2b]
 split
 ·exact Y0o
 ·exact X2t h n true i hi
def lowS(S:StoreD):Option Nat:=lowL (Z1a S 0).data.toList 2 S.head.pages
theorem Z4q{S:StoreD}{n:Nat}(h:lowS S=some n):2≤n∧n<S.head.pages∧Z0y S n=false:=by
 unfold lowS lowL at h
 have h1:=List.find?_some h
 have h2:=List.mem_of_find?_eq_some h
 simp only[Bool.and_eq_true,decide_eq_true_eq,Bool.not_eq_true',List.mem_range]at h1 h2
 exact⟨h1.1,h2,h1.2⟩
theorem V0v{S:StoreD}(h:lowS S=none)(n:Nat)(h1:2≤n)(h2:n<S.head.pages):Z0y S n=true:=by
 unfold lowS lowL at h
 rw[List.find?_eq_none]at h
 have:=h n (by simpa using h2)
 simp only[Bool.and_eq_true,decide_eq_true_eq,Bool.not_eq_true',not_and,Bool.not_eq_false]at this
 exact this h1
theorem Y0n{p:Nat}{F:Nat→Prop}{S:StoreD}(n:Nat)(w:World)(h:PagerAt w p F S)(hn:lowS S=some n):
  Calls Tryz.prog 176 #[.pointer (some ⟨p,0,none⟩)] w fun e w'=>e= .returned (.tuple #[.int .i64 n,.int .i64 0])∧∃F',PagerAt w' p F' (Z1e S n)∧Keeps F F' w w':=by
 have cU:=Y1y w h
 have hm:=h.most
 have hlow:=Z4q hn
 obtain⟨v,hv⟩:∃v,Z1a S 0=v:=⟨_,rfl⟩
 have hsz:v.size=256:=by rw[←hv];exact h.size 0
 rw[hv]at cU
 obtain⟨N,hN⟩:∃N,S.head.pages=N:=⟨_,rfl⟩
 have cL:Hid (∀W s Fs,StoreAt W s Fs S→Calls Tryz.prog 113 #[.pointer (some ⟨s,0,none⟩)] W fun e w'=>e= .returned (.int .i64 N)∧W=w'):=fun W s Fs hs=>by rw[←hN];exact Z4x W hs
 have cO:Hid (∀W,Calls Tryz.prog 215 #[.string v,.int .i64 2,.int .i64 N] W fun e w'=>e= .returned (.tuple #[.int .i64 n,.bool true])∧W=w'):=fun W=>by
  have h1:=X6r v 2 N W (by omega) (by omega) (by omega)
  have h2:lowL v.data.toList 2 N=some n:=by rw[←hv,←hN];exact hn
  rw[h2]at h1
  exact h1
 obtain⟨v2,hv2⟩:∃v2,bts (Z6l v.data.toList n true)=v2:=⟨_,rfl⟩
 have cW:Hid (∀W,Calls Tryz.prog 115 #[.string v,.int .i64 n,.bool true] W fun e w'=>e= .returned (.tuple #[.string v2,.bool true])∧Ext W w'):=fun W=>by
  have h1:=Y1v v n true W (by omega) (by omega) (by omega)
  rw[hv2]at h1
  exact h1
 have hs2:v2.size=256:=by rw[←hv2,←hv];exact Z8x h.full n true
 have HS2:Hid (useP S n true=putP S 0 v2):=by unfold Hid useP;rw[hv,hv2]
 have cP0:Hid (∀W F1,PagerAt W p F1 S→Calls Tryz.prog 116 #[.pointer (some ⟨p,0,none⟩),.int .i64 0,.string v2] W fun e w'=>e= .returned (.int .i64 0)∧∃F',PagerAt w' p F' (useP S n true)∧Keeps F1 F' W w'):=fun W F1 hW=>by rw[HS2.out];exact Z3l 0 v2 W hW (by have:=hW.pages;omega) (by omega)
 have cP1:Hid (∀W F1,PagerAt W p F1 (useP S n true)→Calls Tryz.prog 116 #[.pointer (some ⟨p,0,none⟩),.int .i64 n,.string ⟨#[]⟩] W fun e w'=>e= .returned (.int .i64 0)∧∃F',PagerAt w' p F' (Z1e S n)∧Keeps F1 F' W w'):=fun W F1 hW=>Z3l n ⟨#[]⟩ W hW (by have:=hlow.2.1;simpa [V6t]using this) (by simp[ByteArray.size])
 clear h hv hN hv2 hn hlow HS2
 go_enter Tryz.func176,Tryz.ntmps176
 go_wp2_with (first
  | (go_at_call 214;refine cU.mono ?_;clear cU;rintro e w1 ⟨rfl,F1,hp1,k1⟩;obtain⟨s1,Fs1,d1,hs1⟩:=hp1.open;have HP:=hD hp1;have HK:=hD k1;have cL1:=cL.out _ _ _ hs1;clear hp1 k1 hs1)
  | (go_at_call 113;refine cL1.mono ?_;clear cL1;rintro e w2 ⟨rfl,rfl⟩)
  | (go_at_call 215;refine(cO.out _).mono ?_;rintro e w3 ⟨rfl,rfl⟩)
  | (go_at_call 115;refine(cW.out _).mono ?_;rintro e w4 ⟨rfl,hb4⟩;have HP4:=hD (HP.out.ext hb4);have HK4:=hD (HK.out.ext hb4);clear hb4)
  | (go_at_call 116;(with_reducible refine(cP0.out _ _ HP4.out).mono ?_);clear cP0;rintro e w5 ⟨rfl,F5,hp5,k5⟩;have HP5:=hD hp5;have HK5:=hD (HK4.out.trans k5);clear hp5 k5)
  | (go_at_call 116;(with_reducible refine(cP1.out _ _ HP5.out).mono ?_);clear cP1;rintro e w6 ⟨rfl,F6,hp6,k6⟩;have HP6:=hD hp6;have HK6:=hD (HK5.out.trans k6);clear hp6 k6))
 go_ret2
 exact⟨rfl,F6,HP6.out,HK6.out⟩
theorem Y3d{p:Nat}{F:Nat→Prop}{S:StoreD}(n:Nat)(w:World)(h:PagerAt w p F S)(hn:Z0r S n):
  Calls Tryz.prog 187 #[.pointer (some ⟨p,0,none⟩),.int .i64 n] w fun e w'=>e= .returned (.int .i64 0)∧∃F',PagerAt w' p F' (useP S n false)∧Keeps F F' w w':=by
 have cC:=Y2k n w h hn
 have cU:Hid (∀W F1,PagerAt W p F1 S→Calls Tryz.prog 214 #[.pointer (some ⟨p,0,none⟩)] W fun e w'=>e= .returned (.tuple #[.string (Z1a S 0),.int .i64 0])∧∃F',PagerAt w' p F' S∧Keeps F1 F' W w'):=fun W F1 hW=>Y1y W hW
 have hm:=h.most
 obtain⟨v,hv⟩:∃v,Z1a S 0=v:=⟨_,rfl⟩
 have hsz:v.size=256:=by rw[←hv];exact h.size 0
 rw[hv]at cU
 obtain⟨v2,hv2⟩:∃v2,bts (Z6l v.data.toList n false)=v2:=⟨_,rfl⟩
 have cW:Hid (∀W,Calls Tryz.prog 115 #[.string v,.int .i64 n,.bool false] W fun e w'=>e= .returned (.tuple #[.string v2,.bool true])∧Ext W w'):=fun W=>by
  have h1:=Y1v v n false W (by have:=hn.2.1;omega) (by have:=hn.2.1;omega) (by omega)
  rw[hv2]at h1
  exact h1
 have hs2:v2.size=256:=by rw[←hv2,←hv];exact Z8x h.full n false
 have HS2:Hid (useP S n false=putP S 0 v2):=by unfold Hid useP;rw[hv,hv2]
 have cP0:Hid (∀W F1,PagerAt W p F1 S→Calls Tryz.prog 116 #[.pointer (some ⟨p,0,none⟩),.int .i64 0,.string v2] W fun e w'=>e= .returned (.int .i64 0)∧∃F',PagerAt w' p F' (useP S n false)∧Keeps F1 F' W w'):=fun W F1 hW=>by rw[HS2.out];exact Z3l 0 v2 W hW (by have:=hW.pages;omega) (by omega)
 clear h hv hv2 hn HS2
 go_enter Tryz.func187,Tryz.ntmps187
 go_wp2_with (first
  | (go_at_call 218;refine cC.mono ?_;clear cC;rintro e w1 ⟨rfl,F1,hp1,k1⟩;have HP1:=hD hp1;have HK1:=hD k1;clear hp1 k1)
  | (go_at_call 214;refine(cU.out _ _ HP1.out).mono ?_;clear cU;rintro e w2 ⟨rfl,F2,hp2,k2⟩;have HP2:=hD hp2;have HK2:=hD (HK1.out.trans k2);clear hp2 k2)
  | (go_at_call 115;refine(cW.out _).mono ?_;rintro e w4 ⟨rfl,hb4⟩;have HP4:=hD (HP2.out.ext hb4);have HK4:=hD (HK2.out.ext hb4);clear hb4)
  | (go_at_call 116;(with_reducible refine(cP0.out _ _ HP4.out).mono ?_);clear cP0;rintro e w5 ⟨rfl,F5,hp5,k5⟩;have HP5:=hD hp5;have HK5:=hD (HK4.out.trans k5);clear hp5 k5))
 go_ret
 exact⟨rfl,F5,HP5.out,HK5.out⟩
def Y2u(v:ByteArray)(i n:Nat):ByteArray:=v.extract 0 (4*i)++bts (Z0f n 4)++v.extract (4*i+4) v.size
theorem Y0h{v:ByteArray}(hv:v.size=256){i:Nat}(hi:i<16)(n:Nat):(Y2u v i n).size=256:=by
 unfold Y2u
 rw[ByteArray.size_append,ByteArray.size_append,ByteArray.size_extract,ByteArray.size_extract,Z0h,Z0l,hv]
 omega
theorem X6a(v:ByteArray)(i n:Nat):Y2u v i n=bts (v.data.toList.take (4*i)++Z0f n 4++v.data.toList.drop (4*i+4)):=by
 unfold Y2u
 rw[ByteArray.ext_iff]
 simp[bts]
 rw[List.take_of_length_le]
 rw[List.length_drop,Array.length_toList]
 exact Nat.le_refl _
theorem Y0m(l:List UInt8)(i j:Nat):Z2s (bts l) i j=Z3r ((l.take j).drop i):=by
 unfold Z2s
 congr 1
 have e:((bts l).extract i j).data.toList=(l.drop i).take (j-i):=by simp only[bts,ByteArray.data_extract,Array.toList_extract,List.extract_eq_take_drop]
 rw[e,List.drop_take]
theorem X1n{v:ByteArray}(hv:v.size=256){i j n:Nat}(hi:i<16)(hj:j<16)(hn:n<4294967296):Z2s (Y2u v i n) (4*j) (4*j+4)=if j=i then n else Z2s v (4*j) (4*j+4):=by
 have hl:v.data.toList.length=256:=by rw[Array.length_toList];exact hv
 have hv2:v=bts v.data.toList:=(X4z v).symm
 rw[X6a]
 by_cases e:j=i
 ·subst e
  rw[if_pos rfl,Z6u _ (v.data.toList.take (4*j)) (Z0f n 4) (v.data.toList.drop (4*j+4)) _ _ rfl (by rw[List.length_take];omega) (by rw[Z0l]),X4l n hn]
 ·rw[if_neg e]
  conv=>rhs;rw[hv2]
  rw[Y0m,Y0m]
  congr 1
  apply List.ext_getElem?
  intro k
  simp only[List.getElem?_drop,List.getElem?_take]
  by_cases hk:4*j+k<4*j+4
  ·rw[if_pos hk,if_pos hk]
   rcases Nat.lt_or_gt_of_ne e with h | h
   ·rw[List.append_assoc,List.getElem?_append_left (by rw[List.length_take];omega),List.getElem?_take,if_pos (by omega)]
   ·rw[List.getElem?_append_right (by rw[List.length_append,List.length_take,Z0l];omega),List.getElem?_drop,List.length_append,List.length_take,Z0l]
    congr 1
    omega
  ·rw[if_neg hk,if_neg hk]
def Z0o(S:StoreD)(i n:Nat):StoreD:=putP S 1 (Y2u (Z1a S 1) i n)
theorem X3f{S:StoreD}(h:FullV S){i j n:Nat}(hi:i<16)(hj:j<16)(hn:n<4294967296):Z1v (Z0o S i n) j=if j=i then n else Z1v S j:=by
 unfold Z1v Z0o
 rw[Z2b,if_pos rfl,Y3h _ (Y0h (h 1) hi n)]
 exact X1n (h 1) hi hj hn
theorem Y6n(S:StoreD)(i n k:Nat):Z0y (Z0o S i n) k=Z0y S k:=Z8w (by omega) _ _
theorem Y6m(S:StoreD)(i n k:Nat)(hk:k≠1):Z1a (Z0o S i n) k=Z1a S k:=by unfold Z0o;rw[Z2b,if_neg hk]
theorem Z5v{p:Nat}{F:Nat→Prop}{S:StoreD}(i n:Nat)(w:World)(h:PagerAt w p F S)(hi:i<16)(hn:n=0∨Z0r S n):
  Calls Tryz.prog 178 #[.pointer (some ⟨p,0,none⟩),.int .i64 i,.int .i64 n] w fun e w'=>e= .returned (.int .i64 0)∧∃F',PagerAt w' p F' (Z0o S i n)∧Keeps F F' w w':=by
 have cT:=Y7b i w h hi
 have hm:=h.most
 have hn2:n<1024:=by
  rcases hn with h | h
  ·omega
  ·have:=h.2.1;omega
 have hsz:=h.size 1
 have cC:Hid (∀W F1,PagerAt W p F1 S→n≠0→Calls Tryz.prog 218 #[.pointer (some ⟨p,0,none⟩),.int .i64 n] W fun e w'=>e= .returned (.int .i64 0)∧∃F',PagerAt w' p F' S∧Keeps F1 F' W w'):=fun W F1 hW h0=>Y2k n W hW (by rcases hn with r | r;exact absurd r h0;exact r)
 have cR:Hid (∀W F1,PagerAt W p F1 S→Calls Tryz.prog 209 #[.pointer (some ⟨p,0,none⟩),.int .i64 1] W fun e w'=>e= .returned (.tuple #[.string (Z1a S 1),.int .i64 0])∧∃F',PagerAt w' p F' S∧Keeps F1 F' W w'):=fun W F1 hW=>Z9f 1 W hW (by have:=hW.pages;omega)
 obtain⟨v,hv⟩:∃v,Z1a S 1=v:=⟨_,rfl⟩
 rw[hv]at cR hsz
 have cF:Hid (∀W,Calls Tryz.prog 203 #[.int .u64 n,.int .i64 4] W fun e w'=>e= .returned (.string (bts (Z0f n 4)))∧Ext W w'):=fun W=>Z4t n 4 (by omega) (by omega) W
 have HRB:Hid (Y2u v i n=v.extract 0 (4*i)++bts (Z0f n 4)++v.extract (4*i+4) 256):=by unfold Hid Y2u;rw[hsz]
 have hrs:=Y0h hsz hi n
 have cP:Hid (∀W F1,PagerAt W p F1 S→Calls Tryz.prog 116 #[.pointer (some ⟨p,0,none⟩),.int .i64 1,.string (Y2u v i n)] W fun e w'=>e= .returned (.int .i64 0)∧∃F',PagerAt w' p F' (Z0o S i n)∧Keeps F1 F' W w'):=fun W F1 hW=>by
  have h1:=Z3l 1 (Y2u v i n) W hW (by have:=hW.pages;omega) (by omega)
  unfold Z0o
  rw[hv]
  exact h1
 obtain⟨fx,hfx⟩:∃fx,bts (Z0f n 4)=fx:=⟨_,rfl⟩
 have hfs:fx.size=4:=by rw[←hfx,Z0h,Z0l]
 rw[hfx]at cF HRB
 have hsi:(v.size:Int)=256:=by omega
 have hi2:(i:Int)<16:=by omega
 have u1:IntKind.i64.wrap ((4:Int)*i)=4*i:=by rw[IntKind.wrap_i64];omega
 have u2:IntKind.i64.wrap ((4:Int)*i+4)=4*i+4:=by rw[IntKind.wrap_i64];omega
 have q0:n≠0→decide ((n:Int)=0)=false:=fun h0=>decide_eq_false (by omega)
 have a1:(0:Int)≤4*i:=by omega
 have a2:(4:Int)*i≤256:=by omega
 have a3:(4:Int)*i+4≤256:=by omega
 have a4:(0:Int)≤4*i+4:=by omega
 have a5:((4:Int)*i).toNat=4*i:=by omega
 have a6:((4:Int)*i+4).toNat=4*i+4:=by omega
 have a7:¬9223372036854775807<min (4*i) 256+4:=by omega
 have a8:¬9223372036854775807<min (4*i) 256+4+(252-4*i):=by omega
 clear h hv hfx hn
 have u0:IntKind.u64.wrap (n:Int)=n:=by rw[IntKind.wrap_u64];omega
 by_cases h0:n=0
 ·have q1:decide ((n:Int)=0)=true:=decide_eq_true (by omega)
  have q2:(n==0)=true:=by simpa using h0
  clear q0
  have HZ:=hD h0
  clear h0
  go_enter Tryz.func178,Tryz.ntmps178
  go_upto_region 11 with (first
   | (go_at_call 170;refine cT.mono ?_;clear cT;rintro e w1 ⟨rfl,F1,hp1,k1⟩;have HP1:=hD hp1;have HK1:=hD k1;clear hp1 k1)
   | (go_at_call 209;refine(cR.out _ _ HP1.out).mono ?_;clear cR;rintro e w2 ⟨rfl,F2,hp2,k2⟩;have HP2:=hD hp2;have HK2:=hD (HK1.out.trans k2);clear hp2 k2))
  refine wp_region_held_drew (S:=fun W=>0≤W.heap.size) (by kernel_rfl) (Nat.zero_le _) (fun hHeld=> ?_)
  refine' tk 0 ?_
  refine' tk 1 ?_
  refine' tk 2 ?_
  refine' tk 3 ?_
  refine' tk 4 ?_
  refine' tk 5 ?_
  refine' tk 6 ?_
  refine' tk 9 ?_
  refine' tk 10 ?_
  refine' tk 11 ?_
  refine' tk 12 ?_
  refine' tk 13 ?_
  refine stp 7 (fun K hK=> ?_);go_simp
  (with_reducible refine(cF.out _).mono ?_)
  rintro e w3 ⟨rfl,hb3⟩
  have HP3:Hid (PagerAt w3 p F2 S):=HP2.out.ext (Ext.trans (by exact Xt) hb3)
  have HK3:Hid (Keeps F F2 w w3):=HK2.out.ext (Ext.trans (by exact Xt) hb3)
  clear hb3
  (try dsimp only)
  (try go_simp)
  refine hK.out _ _ (Nat.zero_le _) (fun hHeld=> ?_)
  clear hK K
  refine pt ?_
  refine' tk 8 ?_
  refine' tk 14 ?_
  refine stp 15 (fun K hK=> ?_);go_simp
  rw[←HRB.out]
  (with_reducible refine(cP.out _ _ HP3.out).mono ?_)
  rintro e w4 ⟨rfl,F4,hp4,k4⟩
  have HP4:=hD hp4
  have HK4:=hD (HK3.out.trans k4)
  clear hp4 k4
  (try dsimp only)
  (try go_simp)
  refine hK.out _ _ (Nat.zero_le _) (fun hHeld=> ?_)
  clear hK K
  refine pt ?_
  refine' tk 16 ?_
  refine wpAnyH_done (by kernel_rfl) ?_ _
  go_wp2_with fail
  go_ret
  exact⟨rfl,F4,HP4.out,HK4.out⟩
 ·have q0:=q0 h0
  go_enter Tryz.func178,Tryz.ntmps178
  go_upto_region 11 with (first
   | (go_at_call 170;refine cT.mono ?_;clear cT;rintro e w1 ⟨rfl,F1,hp1,k1⟩;have HP1:=hD hp1;have HK1:=hD k1;clear hp1 k1)
   | (go_at_call 218;refine(cC.out _ _ HP1.out h0).mono ?_;clear cC;rintro e w5 ⟨rfl,F5,hp5,k5⟩;have HP5:=hD hp5;have HK5:=hD (HK1.out.trans k5);clear hp5 k5)
   | (go_at_call 209;refine(cR.out _ _ HP5.out).mono ?_;clear cR;rintro e w2 ⟨rfl,F2,hp2,k2⟩;have HP2:=hD hp2;have HK2:=hD (HK5.out.trans k2);clear hp2 k2))
  refine wp_region_held_drew (S:=fun W=>0≤W.heap.size) (by kernel_rfl) (Nat.zero_le _) (fun hHeld=> ?_)
  refine' tk 0 ?_
  refine' tk 1 ?_
  refine' tk 2 ?_
  refine' tk 3 ?_
  refine' tk 4 ?_
  refine' tk 5 ?_
  refine' tk 6 ?_
  refine' tk 9 ?_
  refine' tk 10 ?_
  refine' tk 11 ?_
  refine' tk 12 ?_
  refine' tk 13 ?_
  refine stp 7 (fun K hK=> ?_);go_simp
  (with_reducible refine(cF.out _).mono ?_)
  rintro e w3 ⟨rfl,hb3⟩
  have HP3:Hid (PagerAt w3 p F2 S):=HP2.out.ext (Ext.trans (by exact Xt) hb3)
  have HK3:Hid (Keeps F F2 w w3):=HK2.out.ext (Ext.trans (by exact Xt) hb3)
  clear hb3
  (try dsimp only)
  (try go_simp)
  refine hK.out _ _ (Nat.zero_le _) (fun hHeld=> ?_)
  clear hK K
  refine pt ?_
  refine' tk 8 ?_
  refine' tk 14 ?_
  refine stp 15 (fun K hK=> ?_);go_simp
  rw[←HRB.out]
  (with_reducible refine(cP.out _ _ HP3.out).mono ?_)
  rintro e w4 ⟨rfl,F4,hp4,k4⟩
  have HP4:=hD hp4
  have HK4:=hD (HK3.out.trans k4)
  clear hp4 k4
  (try dsimp only)
  (try go_simp)
  refine hK.out _ _ (Nat.zero_le _) (fun hHeld=> ?_)
  clear hK K
  refine pt ?_
  refine' tk 16 ?_
  refine wpAnyH_done (by kernel_rfl) ?_ _
  go_wp2_with fail
  go_ret
  exact⟨rfl,F4,HP4.out,HK4.out⟩
theorem Y4i(l:List UInt8):∀k,k≤l.length→Z5b (l.take k)=((List.range (8*k)).filter (hasL l)).length
 | 0,_=>by simp[Z5b]
 | k+1,hk=>by
   have ih:=Y4i l k (by omega)
   rw[Y4h l k l[k] (List.getElem?_eq_getElem (by omega)),ih,show 8*(k+1)=8*k+8 by omega,List.range_add,List.filter_append,List.length_append]
   congr 1
   unfold popN
   rw[List.countP_eq_length_filter,List.filter_map,List.length_map]
   congr 1
   apply List.filter_congr
   intro i hi
   have hi:i<8:=by simpa using hi
   simp only[Function.comp,hasL]
   rw[show (8*k+i)/8=k by omega,show(8*k+i)%8=i by omega,List.getElem?_eq_getElem (by omega)]
   rfl
def Z1x(S:StoreD)(n:Nat):Nat:=((List.range n).filter (Z0y S)).length
theorem Y2q(S:StoreD)(n:Nat):Z1x S n≤n:=by
 have:=List.length_filter_le (Z0y S) (List.range n)
 simpa [Z1x]using this
theorem Y2p(S:StoreD)(n:Nat):Z1x S (n+1)=Z1x S n+if Z0y S n=true then 1 else 0:=by
 unfold Z1x
 rw[List.range_succ,List.filter_append,List.length_append]
 by_cases h:Z0y S n=true<;>simp[h]
def Z0z(S:StoreD):Nat:=S.head.pages-Z1x S S.head.pages
theorem X9v{p:Nat}{F:Nat→Prop}{S:StoreD}(w:World)(h:PagerAt w p F S):
  Calls Tryz.prog 219 #[.pointer (some ⟨p,0,none⟩)] w fun e w'=>e= .returned (.int .i64 (Z0z S))∧∃F',PagerAt w' p F' S∧Keeps F F' w w':=by
 have cU:=Y1y w h
 have hm:=h.most
 have hsz:=h.size 0
 have HT:Hid (∀k,Z1x S (k+1)=Z1x S k+if Z0y S k=true then 1 else 0):=Y2p S
 have HTL:Hid (∀k,Z1x S k≤k):=Y2q S
 have HU:Hid (∀k,Z0y S k=hasL (Z1a S 0).data.toList k):=fun k=>rfl
 have HRM:Hid (Z0z S=S.head.pages-Z1x S S.head.pages):=rfl
 obtain⟨N,hN⟩:∃N,S.head.pages=N:=⟨_,rfl⟩
 have cL:Hid (∀W s Fs,StoreAt W s Fs S→Calls Tryz.prog 113 #[.pointer (some ⟨s,0,none⟩)] W fun e w'=>e= .returned (.int .i64 N)∧W=w'):=fun W s Fs hs=>by rw[←hN];exact Z4x W hs
 obtain⟨v,hv⟩:∃v,Z1a S 0=v:=⟨_,rfl⟩
 have hlen:v.data.toList.length=256:=by rw[←hv];exact h.full.len 0
 have HC0:Hid (Z5b (v.data.toList.take (N/8))=Z1x S (8*(N/8))):=by
  unfold Hid
  rw[Y4i _ _ (by omega),←hv]
  rfl
 rw[hv]at cU hsz HU
 rw[hN]at HRM hm
 have cC:Hid (∀W,Calls Tryz.prog 262 #[.string (v.extract 0 (N/8))] W fun e w'=>e= .returned (.int .i64 (Z1x S (8*(N/8))))∧W=w'):=fun W=>by
  have h1:=V3j (v.extract 0 (N/8)) W (by rw[ByteArray.size_extract];omega)
  have e:(v.extract 0 (N/8)).data.toList=v.data.toList.take (N/8):=by simp
  rw[e,HC0.out]at h1
  exact h1
 have cH:Hid (∀k W,k<N→Calls Tryz.prog 260 #[.string v,.int .i64 k] W fun e w'=>e= .returned (.bool (Z0y S k))∧W=w'):=fun k W hk=>by
  rw[HU.out]
  exact X1z v k W (by omega) (by omega)
 obtain⟨M,hM⟩:∃M,N/8=M:=⟨_,rfl⟩
 rw[hM]at cC
 have hM1:8*M≤N:=by omega
 have hM2:N<8*M+8:=by omega
 have u1:(N:Int).tdiv 8=(M:Int):=by rw[←hM,Int.tdiv_eq_ediv_of_nonneg (by omega)];omega
 have u2:IntKind.i64.wrap (M:Int)=(M:Int):=by rw[IntKind.wrap_i64];omega
 have hsi:(v.size:Int)=256:=by omega
 have hMi:(M:Int)≤128:=by omega
 have htm:=HTL.out (8*M)
 clear h hN hv HU HC0 hlen hM
 go_enter Tryz.func219,Tryz.ntmps219
 go_wp2_with (first
  | (go_at_call 214;refine cU.mono ?_;clear cU;rintro e w1 ⟨rfl,F1,hp1,k1⟩;obtain⟨s1,Fs1,d1,hs1⟩:=hp1.open;have HP:=hD hp1;have HK:=hD k1;have cL1:=cL.out _ _ _ hs1;clear hp1 k1 hs1)
  | (go_at_call 113;refine cL1.mono ?_;clear cL1;rintro e w2 ⟨rfl,rfl⟩)
  | (go_at_call 262;(with_reducible refine(cC.out _).mono ?_);rintro e w3 ⟨rfl,rfl⟩))
 go_loop [6,7] (fun r i=>∃k:Nat,8*M≤k∧k≤N∧i= .int .i64 k∧r= .int .i64 ((N:Int)-Z1x S k)) (fun _ i=>N-(intOf i).toNat)
 case atStart=>exact⟨8*M,by omega,by omega,by go_num,by first | rfl | trivial⟩
 case round=>
  obtain⟨k,hk1,hk2,rfl,rfl⟩:=hrel
  have htk:Z1x S k≤k:=HTL.out k
  have HTk:=HT.out k
  have HTK:Hid (Z1x S (k+1)=Z1x S k+if Z0y S k=true then 1 else 0):=HTk
  clear HTk
  by_cases hkl:k<N
  ·have q1:decide ((k:Int)<N)=true:=decide_eq_true (by omega)
   have q1':decide (k<N)=true:=decide_eq_true hkl
   have cHk:=cH.out k w1 hkl
   generalize Z0y S k=b at HTK cHk
   cases b
   ·go_wp2_with (go_at_call 260;(with_reducible refine cHk.mono ?_);rintro e w3 ⟨rfl,rfl⟩)
    go_round
    case rel=>exact⟨k+1,by omega,by omega,by go_num,by rw[HTK.out];simp⟩
    case measure=>simp[intOf];omega
   ·go_wp2_with (go_at_call 260;(with_reducible refine cHk.mono ?_);rintro e w3 ⟨rfl,rfl⟩)
    go_round
    case rel=>exact⟨k+1,by omega,by omega,by go_num,by rw[HTK.out];simp;omega⟩
    case measure=>simp[intOf];omega
  ·obtain rfl:k=N:=by omega
   go_wp2_with fail
   go_ret
   exact⟨Y2w (by rw[HRM.out];omega),F1,HP.out,HK.out⟩
def fmtU:ByteArray:=bts (Z6l (Z6l (List.replicate 256 0) 0 true) 1 true)
def fmtP(S:StoreD):StoreD:=putP (putP S 0 fmtU) 1 ⟨#[]⟩
theorem X0h:fmtU.size=256:=by unfold fmtU;rw[Z0h,Z5e,Z5e,List.length_replicate]
theorem Y1x(S:StoreD)(n:Nat):Z0y (fmtP S) n=decide (n<2):=by
 unfold Z0y fmtP
 rw[Z2b,if_neg (by omega),Z2b,if_pos rfl,Y3h _ X0h]
 unfold fmtU
 rw[Z1o,Y7w _ _ _ _ (by rw[Z5e,List.length_replicate];omega),Y7w _ _ _ _ (by rw[List.length_replicate];omega),V1w]
 by_cases h1:n=1
 ·simp[h1]
 ·by_cases h0:n=0
  ·simp[h0]
  ·rw[if_neg h1,if_neg h0];symm;exact decide_eq_false (by omega)
theorem V4s(S:StoreD)(i:Nat):Z1v (fmtP S) i=0:=by
 unfold Z1v fmtP
 rw[Z2b,if_pos rfl,Y0o,←Z8a,Y0m]
 have h:∀l:List UInt8,(∀x∈l,x=0)→∀k,upN l k=0:=fun l hl k=>by
  induction k with
  | zero=>rfl
  | succ k ih=>
    unfold upN
    rw[ih]
    cases hq:l[k]? with
    | none=>simp
    | some x=>rw[hl x (List.mem_of_getElem? hq)];simp
 exact h _ (fun x hx=>List.eq_of_mem_replicate (List.mem_of_mem_take (List.mem_of_mem_drop hx))) _
theorem X1l{p:Nat}{F:Nat→Prop}{S:StoreD}(w:World)(h:PagerAt w p F S):
  Calls Tryz.prog 53 #[.pointer (some ⟨p,0,none⟩)] w fun e w'=>e= .returned (.int .i64 0)∧∃F',PagerAt w' p F' (fmtP S)∧Keeps F F' w w':=by
 have cM:=Z9g w h
 obtain⟨s1,Fs1,d1,hs1⟩:=h.open
 have cL:=Z4x w hs1
 have hp2:=h.pages
 have q0:decide ((S.head.pages:Int)≤2)=false:=decide_eq_false (by omega)
 have HP:=hD h
 have cE:Hid (∀W,Calls Tryz.prog 114 #[.int .i64 2048] W fun e w'=>e= .returned (.string zeroB)∧Ext W w'):=fun W=>V2y W
 obtain⟨U,hU⟩:∃U:Nat→ByteArray,U=fun k=>if k=0 then zeroB else if k=1 then bts (Z6l (List.replicate 256 0) 0 true)else fmtU:=⟨_,rfl⟩
 have HU0:Hid (U 0=zeroB):=by rw[hU];rfl
 have HU2:Hid (U 2=fmtU):=by rw[hU];rfl
 have cW:Hid (∀k W,k<2→Calls Tryz.prog 115 #[.string (U k),.int .i64 k,.bool true] W fun e w'=>e= .returned (.tuple #[.string (U (k+1)),.bool true])∧Ext W w'):=fun k W hk=>by
  rcases(by omega:k=0∨k=1)with rfl | rfl
  ·have h1:=Y1v zeroB 0 true W (by omega) (by rw[Z4i];omega) (by rw[Z4i];omega)
   rw[HU0.out,show U 1=bts (Z6l (List.replicate 256 0) 0 true)by rw[hU];rfl]
   rw[←Z8a,Z1o]at h1
   rw[←Z8a]
   exact h1
  ·have e1:U 1=bts (Z6l (List.replicate 256 0) 0 true):=by rw[hU];rfl
   have h1:=Y1v (U 1) 1 true W (by omega) (by rw[e1,Z0h,Z5e,List.length_replicate];omega) (by rw[e1,Z0h,Z5e,List.length_replicate];omega)
   rw[HU2.out]
   rw[e1,Z1o]at h1
   rw[e1]
   exact h1
 have cP0:Hid (∀W F1,PagerAt W p F1 S→Calls Tryz.prog 116 #[.pointer (some ⟨p,0,none⟩),.int .i64 0,.string (U 2)] W fun e w'=>e= .returned (.int .i64 0)∧∃F',PagerAt w' p F' (putP S 0 fmtU)∧Keeps F1 F' W w'):=fun W F1 hW=>by rw[HU2.out];exact Z3l 0 fmtU W hW (by omega) (by rw[X0h];omega)
 have cP1:Hid (∀W F1,PagerAt W p F1 (putP S 0 fmtU)→Calls Tryz.prog 116 #[.pointer (some ⟨p,0,none⟩),.int .i64 1,.string ⟨#[]⟩] W fun e w'=>e= .returned (.int .i64 0)∧∃F',PagerAt w' p F' (fmtP S)∧Keeps F1 F' W w'):=fun W F1 hW=>Z3l 1 ⟨#[]⟩ W hW (by have:=hW.pages;omega) (by simp[ByteArray.size])
 clear h hs1 hU
 go_enter Tryz.func53,Tryz.ntmps53
 go_wp2_with (first
  | (go_at_call 112;refine cM.mono ?_;clear cM;rintro e w1 ⟨rfl,rfl⟩)
  | (go_at_call 113;refine cL.mono ?_;clear cL;rintro e w2 ⟨rfl,rfl⟩)
  | (go_at_call 114;refine(cE.out _).mono ?_;rintro e w3 ⟨rfl,hb3⟩;have HB3:=hD hb3;clear hb3))
 rw[←HU0.out]
 go_loopw [3,16] (fun u i wr=>∃k:Nat,k≤2∧i= .int .i64 k∧u= .string (U k)∧Ext w wr) (fun _ i _=>2-(intOf i).toNat)
 case atStart=>exact⟨0,by omega,rfl,rfl,HB3.out⟩
 case round=>
  obtain⟨k,hk,rfl,rfl,hx⟩:=hrel
  have HX:=hD hx
  clear hx
  by_cases hkl:k<2
  ·have q1:decide ((k:Int)<2)=true:=decide_eq_true (by omega)
   have cWk:=cW.out k wr hkl
   go_wp2_with (go_at_call 115;(with_reducible refine cWk.mono ?_);rintro e w4 ⟨rfl,hb4⟩)
   go_roundw
   case rel=>exact⟨k+1,by omega,by go_num,rfl,Ext.trans HX.out hb4⟩
   case measure=>simp[intOf];omega
  ·obtain rfl:k=2:=by omega
   go_wp2_with (first
    | (go_at_call 116;(with_reducible refine(cP0.out _ _ (HP.out.ext HX.out)).mono ?_);clear cP0;rintro e w5 ⟨rfl,F5,hp5,k5⟩;have HP5:=hD hp5;have HK5:=hD ((Keeps.of HX.out).trans k5);clear hp5 k5)
    | (go_at_call 116;(with_reducible refine(cP1.out _ _ HP5.out).mono ?_);clear cP1;rintro e w6 ⟨rfl,F6,hp6,k6⟩;have HP6:=hD hp6;have HK6:=hD (HK5.out.trans k6);clear hp6 k6))
   go_ret
   exact⟨rfl,F6,HP6.out,HK6.out⟩
theorem Y9o{s:Nat}{F:Nat→Prop}{S:StoreD}(w:World)(h:StoreAt w s F S)(hl:Live S)(hp:2<S.head.pages):
  Calls Tryz.prog 52 #[.pointer (some ⟨s,0,none⟩)] w fun e w'=>∃p F',e= .returned (.tuple #[.pointer (some ⟨p,0,none⟩),.int .i64 0])∧PagerAt w' p F' S∧Keeps F F' w w'∧w.heap.size≤p:=by
 have cR:=Z9a 0 w h hl (by omega)
 have cC:Hid (∀W,Calls Tryz.prog 111 #[.int .i64 64] W fun e w'=>∃c F,e= .returned (.tuple #[.pointer (some ⟨c,0,none⟩),.int .i64 0])∧CacheAt w' c F []∧Ext W w'∧∀i,F i→W.heap.size≤i):=fun W=>X0r W
 have HH:=hD h.shrink
 clear h
 go_enter Tryz.func52,Tryz.ntmps52
 go_wp2_with (first
  | (go_at_call 110;refine cR.mono ?_;clear cR;rintro e w1 ⟨rfl,hb1⟩;have HB1:=hD hb1;clear hb1)
  | (go_at_call 111;refine(cC.out _).mono ?_;rintro e w2 ⟨c,Fc,rfl,hc2,hb2,hf2⟩;have HC2:=hD hc2;have HB2:=hD (Ext.trans HB1.out hb2);have HF2:=hD hf2;have HZ1:=hD HB1.out.size;clear hc2 hb2 hf2))
 go_ret2
 have hx:Ext w2 (w2.alloc (.cells #[.pointer (some ⟨s,0,none⟩),.pointer (some ⟨c,0,none⟩)] 184)):=Ext.alloc _ _
 have hX:=Ext.trans HB2.out hx
 have hz:=HB2.out.size
 obtain⟨lv,q1,q2,q3⟩:=HC2.out
 refine⟨w2.heap.size,fun i=>i=w2.heap.size∨(F i∧i<w.heap.size)∨(Fc i∧i<w2.heap.size),rfl,⟨s,c,fun i=>F i∧i<w.heap.size,fun i=>Fc i∧i<w2.heap.size,[],⟨Row1.made _ _ _,HH.out.ext hX,CacheAt.ext ⟨lv,q1,⟨q2,q1.row.lt⟩,fun b e=>⟨q3 b e,(q1.own.lt b e).2⟩⟩ hx,CGood.nil S,hl,hp,fun i a b=> ?_,fun a=>by omega,fun a=>by omega,.inl rfl,fun i a=> .inr (.inl a),fun i a=> .inr (.inr a),fun i a=>Nat.lt_of_lt_of_le a.2 hX.size,fun i a=>Nat.lt_of_lt_of_le a.2 hx.size⟩⟩,⟨Only.of hX,fun i a=> ?_⟩,hz⟩
 ·have:=HF2.out i b.1
  have:=HZ1.out
  omega
 ·rcases a with a | a | a
  ·exact .inr (by omega)
  ·exact .inl a.1
  ·exact .inr (by have:=HF2.out i a.1;have:=HZ1.out;omega)
def encN(n:Int):List Value:= [.int .i64 n]
theorem Z0j(n:Int):(encN n).length=1:=rfl
theorem Z2p(n:Int):∀u∈encN n,u.oneCell'=true:=by
 intro u hu
 simp only[encN,List.mem_cons,List.not_mem_nil,or_false]at hu
 rcases hu with rfl
 rfl
theorem Tryz.infoInt1:(Tryz.prog.info? 3).map (fun i=>(i.zero,i.size,i.bytes))=some (some (.int .i64 0),1,8):=by kernel_rfl
theorem elInt:Elem Tryz.prog 23 3 1 8:=Elem.of Tryz.underlying23 Tryz.infoInt1 rfl (by decide)
theorem Y6y:(Tryz.prog.info? 9).map (·.size)=some 1:=by kernel_rfl
theorem Y6z:(Tryz.prog.info? 3).map (·.size)=some 1:=by kernel_rfl
theorem Tryz.zeroStr1(w:World):(zeroValue 9).run Tryz.prog w= .ok (.string ⟨#[]⟩) w:=by kernel_rfl
theorem Tryz.zeroInt1(w:World):(zeroValue 3).run Tryz.prog w= .ok (.int .i64 0) w:=by kernel_rfl
section
variable {α:Type} {enc:α→List Value}
theorem Z0s(h:∀x,(enc x).length=1)(l:List α):(l.flatMap enc).length=l.length:=by rw[Z3c enc 1 h,Nat.mul_one]
theorem Z7z(h:∀x,(enc x).length=1):∀(l:List α) (i:Nat),(l.flatMap enc).take i=(l.take i).flatMap enc
 | [],i=>by simp
 | x::l,0=>by simp
 | x::l,i+1=>by
   rw[List.flatMap_cons,List.take_append,h,List.take_of_length_le (by rw[h];omega),show i+1-1=i by omega,Z7z h l i,List.take_succ_cons,List.flatMap_cons]
theorem Z4o(h:∀x,(enc x).length=1):∀(l:List α) (i:Nat),(l.flatMap enc).drop i=(l.drop i).flatMap enc
 | [],i=>by simp
 | x::l,0=>by simp
 | x::l,i+1=>by
   rw[List.flatMap_cons,List.drop_append,h,List.drop_of_length_le (by rw[h];omega),show i+1-1=i by omega,Z4o h l i,List.drop_succ_cons,List.nil_append]
theorem Z5r(h1:∀x,∀u∈enc x,u.oneCell'=true)(l:List α):∀v∈l.flatMap enc,v.oneCell'=true:=fun v hv=>by
 obtain⟨x,_,hx⟩:=List.mem_flatMap.1 hv
 exact h1 x v hx
def insL(l:List α)(i:Nat)(x:α):List α:=l.take i++x::l.drop i
theorem Z1b(l:List α)(i:Nat)(x:α):(insL l i x).length=l.length+1:=by
 unfold insL
 simp
 omega
theorem Z9l(h:∀x,(enc x).length=1)(l:List α)(i:Nat)(x:α):(insL l i x).flatMap enc=(l.flatMap enc).take i++enc x++(l.flatMap enc).drop i:=by
 unfold insL
 rw[List.flatMap_append,List.flatMap_cons,Z7z h,Z4o h,List.append_assoc]
theorem X4f(L spare X:List Value)(i:Nat)(hi:i≤L.length)(hs:1≤spare.length)(hX:X.length=1):
  ((L++spare).take (i+1)++L.drop i++(L++spare).drop (i+1+(L.drop i).length)).take i++X++((L++spare).take (i+1)++L.drop i++(L++spare).drop (i+1+(L.drop i).length)).drop (i+X.length)=L.take i++X++L.drop i++spare.drop 1:=by
 have e0:((L++spare).take (i+1)).length=i+1:=by rw[List.length_take,List.length_append];omega
 have e1:(L++spare).drop (i+1+(L.drop i).length)=spare.drop 1:=by
  rw[List.length_drop,show i+1+(L.length-i)=L.length+1 by omega,←List.drop_drop,List.drop_left]
 rw[e1,hX,List.append_assoc ((L++spare).take (i+1)),List.drop_left' e0,List.take_append_of_le_length (by omega),List.take_take,show min i (i+1)=i by omega,List.take_append_of_le_length hi,List.append_assoc,List.append_assoc,List.append_assoc]
theorem X4g(L Z X:List Value)(i:Nat)(hi:i≤L.length)(hZ:L.length+1≤(L.take i++Z).length)(hX:X.length=1):
  ((L.take i++Z).take i++X++(L.take i++Z).drop (i+X.length)).take (i+1)++L.drop i++((L.take i++Z).take i++X++(L.take i++Z).drop (i+X.length)).drop (i+1+(L.drop i).length)=L.take i++X++L.drop i++Z.drop (L.length+1-i):=by
 have e0:(L.take i).length=i:=by rw[List.length_take];omega
 have e1:(L.take i++X).length=i+1:=by rw[List.length_append,e0,hX]
 have e2:(L.take i++Z).drop (i+1)=Z.drop 1:=by rw[←List.drop_drop,List.drop_left' e0]
 rw[hX,List.take_left' e0,e2,List.take_left' e1,←List.drop_drop,List.drop_left' e1,List.drop_drop,List.length_drop]
 congr 2
 omega
end
end Go.Proofs.YtmiolpfanlpfnaaGreat
