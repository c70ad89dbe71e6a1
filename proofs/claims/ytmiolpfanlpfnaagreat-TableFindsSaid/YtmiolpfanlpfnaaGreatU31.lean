/- Get in any tree. Conditions: pages that bear a tree. -/
import Derived.Test.YtmiolpfanlpfnaaGreatU30
import Derived.Test.YtmiolpfanlpfnaaGreatU21
set_option maxRecDepth 100000
set_option maxHeartbeats 4000000
set_option linter.unusedSimpArgs false
set_option linter.unusedVariables false
namespace Go.Proofs.YtmiolpfanlpfnaaGreat
open Go.RowKit
def getV:Option ByteArray→Value
 | some v=> .tuple #[.string v,.int .i64 0]
 | none=> .tuple #[.string ⟨#[]⟩,.int .i64 6]
theorem Y5w{l:List KV}{k:ByteArray}(h:∀x∈l,x.1≠k):Y0y l k=none:=by
 unfold Y0y
 rw[List.find?_eq_none.2 (fun x hx=>by rw[Z2j (h x hx)];decide)]
 rfl
theorem Y0x{l:List KV}{k v:ByteArray}(hr:Z8c l)(h:(k,v)∈l):Y0y l k=some v:=by
 obtain⟨i,hi,he⟩:=List.mem_iff_getElem.1 h
 have hp:=List.pairwise_iff_getElem.1 hr
 unfold Y0y
 have:l.find? (fun x=>eqB x.1 k)=some (k,v):=by
  rw[List.find?_eq_some_iff_getElem]
  refine⟨(Z7g k k).2 rfl,i,hi,he,fun j hj=> ?_⟩
  have h1:=hp j i (by omega) hi hj
  rw[he]at h1
  rw[Z2j (Z2y h1)];rfl
 rw[this];rfl
theorem V2a(t:LeafT)(h:okT 0 t)(k:ByteArray):getN (Z0c 0 t) k=getV (Y0y (Z0e 0 t) k):=by
 have hl:(LeafT.vals t).length=(LeafT.keys t).length:=h.2.1
 unfold getN
 cases hh:hasB (Z0c 0 t).keys k with
 | true=>
   obtain⟨hp,he⟩:=Z5a (l:=LeafT.keys t) h.1 hh
   have hv:posB (LeafT.keys t) k<(LeafT.vals t).length:=by omega
   rw[if_pos rfl]
   have hm:(k,(LeafT.vals t)[posB (LeafT.keys t) k])∈Z0e 0 t:=by
    show _∈(LeafT.keys t).zip (LeafT.vals t)
    have hz:posB (LeafT.keys t) k<((LeafT.keys t).zip (LeafT.vals t)).length:=by rw[List.length_zip];omega
    have:=List.getElem_mem hz
    rw[List.getElem_zip,he]at this
    exact this
   rw[Y0x (Z4m 0 t h) hm]
   show Value.tuple #[.string ((LeafT.vals t)[posB (LeafT.keys t) k]?.getD ⟨#[]⟩),.int .i64 0]=_
   rw[List.getElem?_eq_getElem hv]
   rfl
 | false=>
   rw[if_neg (by decide),Y5w (fun x hx e=> ?_)]
   ·rfl
   ·have h1:=Z5k 0 t x hx
    rw[e]at h1
    have h2:=(Z5z (LeafT.keys t) k).2 h1
    have hh':hasB (LeafT.keys t) k=false:=hh
    rw[h2]at hh';cases hh'
theorem X9y{S:StoreD}(k:ByteArray):∀(d:Nat) (t:TT d),onT S d t→okT d t→∃n,V8c S k d (atT d t) n∧getN n k=getV (Y0y (Z0e d t) k)
 | 0,t,h,hok=>⟨Z0c 0 t,⟨h,rfl,hok.1⟩,V2a t hok k⟩
 | d+1,t,h,hok=>by
   have hj:Z0g (InT.keys t) k<(InT.kids t).length:=by have:=Z4g (k:=k) hok.1;have:=hok.2.1;omega
   obtain⟨n,h1,h2⟩:=X9y k d _ (h.2 _ (List.getElem_mem hj)) (hok.2.2.2.1 _ (List.getElem_mem hj))
   refine⟨n,⟨Z0c (d+1) t,h.1,rfl,hok.1,?_⟩,?_⟩
   ·have e:((Z0c (d+1) t).kids[Z0g (Z0c (d+1) t).keys k]?.getD 0)=(atT d (InT.kids t)[Z0g (InT.keys t) k]:Int):=by
     show(((InT.kids t).map fun c=>(atT d c:Int))[Z0g (InT.keys t) k]?).getD 0=_
     rw[List.getElem?_map,List.getElem?_eq_getElem hj];rfl
    rw[e,Int.toNat_natCast]
    exact h1
   ·obtain⟨a1,a2⟩:=Y6h (t:=t) hok k
    rw[h2]
    congr 1
    show _=Y0y ((InT.kids t).flatMap (Z0e d)) k
    rw[Z6a (Z0e d) (InT.kids t) hj,V2d a1 a2]
theorem X2y{tr p i:Nat}{F:Nat→Prop}{S:StoreD}(T:TrD)(k:ByteArray)(w:World)(ht:Z0b w tr p i)(hnt:¬F tr)(h:PagerAt w p F S)(hi:i<16)(hT:TrS S i T)(hd:T.fine):
  Calls Tryz.prog 125 #[.pointer (some ⟨tr,0,none⟩),.string k] w fun e w'=>e= .returned (getV (Y0y T.list k))∧∃F',PagerAt w' p F' S∧Keeps F F' w w':=by
 cases T with
 | no=>exact V6w k w ht hnt h hi hT
 | yes d t=>
   obtain⟨hr,hon,hok,hnd⟩:=hT
   obtain⟨n,h1,h2⟩:=X9y k d t hon hok
   have hd':d<31:=hd
   have:=U0d (atT d t) d k n w ht hnt h hi hr (by have:=(Z0k d t hon _ (Z0q d t)).1;omega) h1 (by omega)
   rw[h2]at this
   exact this
def pgN(n room:Nat):Nat:=min (n-2-room) 1024
def Z4s(n room:Nat):HeadD:=⟨2,0,room,pgN n room⟩
def Y5x(n room:Nat):StoreD:=⟨fmtD n room (pgN n room),Z4s n room,Y9t,false⟩
theorem V0c(h:HeadD):padB (Z5o h)=bts (Z1f h++notL (Z1f h)++List.replicate 216 0):=by
 rw[←Y2d (Z5o h) 216 (by rw[Z7x]) (by rw[Z7x];omega)]
 unfold Z5o
 rw[ByteArray.ext_iff,ByteArray.data_append]
 simp[bts]
theorem X7h(n room pages:Nat)(hn:2≤n):Z0x (fmtD n room pages) 0=padB (Z5o ⟨2,0,room,pages⟩):=by
 unfold Z0x fmtD Z2v
 simp[List.getElem?_set,show 0<n from by omega]
theorem Y6a(n room pages:Nat)(hn:2≤n):Z0x (fmtD n room pages) 1=zeroB:=by
 unfold Z0x fmtD Z2v
 simp[List.getElem?_set,show 1<n from by omega]
theorem V2j(n room pages:Nat):(fmtD n room pages).blocks.length=n:=by simp[fmtD]
theorem X3o:Z4e zeroB=(zeroH,false):=by
 have h:=X6e
 unfold Z4e at h ⊢
 split at h
 ·simp at h
 ·rename_i hc
  rw[if_neg hc]
  rfl
theorem X4k{n room:Nat}(hr1:1≤room)(hr2:room+3≤n)(hn:n≤2048):HeadOk (Z4s n room):=⟨by simp[Z4s],by simp[Z4s],by dsimp only[Z4s,pgN];omega,by dsimp only[Z4s,pgN];omega⟩
theorem Y3x{n room:Nat}(hr1:1≤room)(hr2:room+3≤n)(hn:n≤2048):Z4e (Z0x (fmtD n room (pgN n room)) 0)=(Z4s n room,true):=by
 rw[X7h _ _ _ (by omega),V0c]
 exact X6f (Z4s n room) (X4k hr1 hr2 hn) _
theorem X7e{n room:Nat}(hr1:1≤room)(hr2:room+3≤n)(hn:n≤2048)(i:Nat)(hi:i<2):X5e (fmtD n room (pgN n room)).blocks.length (Z0x (fmtD n room (pgN n room)) i):=by
 rw[V2j]
 rcases(show i=0∨i=1 from by omega)with rfl | rfl
 ·exact .inr ⟨_,Y3x hr1 hr2 hn,⟨X4k hr1 hr2 hn,hr1,by dsimp only[Z4s,pgN];omega,by dsimp only[Z4s,pgN];omega,Nat.zero_le _,by dsimp only[Z4s,pgN];omega⟩⟩
 ·exact .inl (by rw[Y6a _ _ _ (by omega)];exact X3o)
theorem X0f{n room:Nat}(hr1:1≤room)(hr2:room+3≤n)(hn:n≤2048):Y0r (fmtD n room (pgN n room))=(Z4s n room,true):=by
 have h1:Z4e (Z0x (fmtD n room (pgN n room)) 1)=(zeroH,false):=by rw[Y6a _ _ _ (by omega)];exact X3o
 have h0:=Y3x hr1 hr2 hn
 unfold Y0r Z3p Z3p Z3p
 rw[h1,h0]
 rw[if_neg (by simp),if_pos ⟨rfl,by simp[zeroH,Z4s],by simp[Z4s]⟩]
def Z1j(n room:Nat):StoreD:=fmtP (Y5x n room)
theorem X6d(n room:Nat):Live (Y5x n room):=⟨rfl,rfl⟩
theorem X3m(n room i:Nat):TrS (Z1j n room) i .no:=V4s _ i
theorem X3n{n room:Nat}(hf:FullV (Z1j n room)):Fm (Z1j n room):=⟨hf,by unfold Z1j;rw[Y1x];rfl,by unfold Z1j;rw[Y1x];rfl,Nat.min_le_right _ _⟩
theorem Y8v(S:StoreD):∀n,Z1x (fmtP S) n=min n 2
 | 0=>rfl
 | n+1=>by
   rw[Y2p,Y8v S n,Y1x]
   by_cases h:n<2
   ·rw[if_pos (decide_eq_true h)];omega
   ·rw[if_neg (by simp;omega)];omega
theorem Y0i(n room:Nat):Z0z (Z1j n room)=pgN n room-2:=by
 unfold Z0z Z1j
 rw[Y8v]
 show pgN n room-min (pgN n room) 2=_
 omega
def keyL(l:List Int):List UInt8:=l.flatMap ordL
theorem Z1t(l:List Int):(keyL l).length=8*l.length:=by
 induction l with
 | nil=>rfl
 | cons a r ih=>rw[keyL,List.flatMap_cons,List.length_append,←keyL,ih,Z1s,List.length_cons];omega
def OfR(l:List Int):Value:=if 4<l.length then .tuple #[.string ⟨#[]⟩,.int .i64 22]else .tuple #[.string (bts (keyL l)),.int .i64 0]
theorem V0o{A:Option Addr}{n c:Nat}(l:List Int)(w:World)(h:Sl w 1 (fun x cs=>cs=encN x) (.slice A n c) l)(hl:∀x∈l,-9223372036854775808≤x∧x≤9223372036854775807)(hn:n≤1000000000000000000):
  Calls Tryz.prog 68 #[.slice A n c] w fun e w'=>e= .returned (OfR l)∧Ext w w':=by
 obtain⟨hnl,hc1,hc2,hx⟩:=h.at
 have HR:Hid (OfR l=if 4<l.length then .tuple #[.string ⟨#[]⟩,.int .i64 22]else .tuple #[.string (bts (keyL l)),.int .i64 0]):=rfl
 have HNL:=hD hnl
 have HX:=hD hx
 have HL:=hD hl
 have hw8:IntKind.i64.wrap (8*(n:Int))=8*(n:Int):=by rw[IntKind.wrap_i64];omega
 clear h hnl hx hl
 by_cases h4:4<n
 ·have T1:decide ((32:Int)<8*(n:Int))=true:=decide_eq_true (by omega)
  go_enter Tryz.func68,Tryz.ntmps68
  go_wp2_with fail
  go_ret2
  rw[HR.out,if_pos (by have:=HNL.out;omega)]
  exact⟨rfl,Ext.refl w⟩
 ·have T1:decide ((32:Int)<8*(n:Int))=false:=decide_eq_false (by omega)
  go_enter Tryz.func68,Tryz.ntmps68
  go_wp2_with fail
  go_loopw [4,13] (fun s x wr=>∃(k:Nat) (s9:ByteArray),k≤n∧x= .int .i64 k∧s= .string s9∧s9.size≤1000∧Hid (s9=bts (keyL (l.take k)))∧Ext w wr) (fun _ x _=>n-(intOf x).toNat)
  case atStart=>exact⟨0,⟨#[]⟩,by omega,rfl,rfl,by decide,rfl,Ext.refl w⟩
  case round=>
   obtain⟨k,s9,hk,rfl,rfl,hsz,hs9,hxr⟩:=hrel
   have HXR:=hD hxr
   clear hxr
   by_cases hkn:k<n
   ·have q1:decide ((k:Int)<n)=true:=decide_eq_true (by omega)
    have q2:(k:Int)<n:=by omega
    obtain⟨b,off,rfl,hb,hcell⟩:=HX.out (by have:=HNL.out;omega)
    obtain⟨cs,rfl,_,hcs⟩:=hcell k (by have:=HNL.out;omega)
    obtain⟨x,hx⟩:∃x,l[k]? =some x:=⟨_,List.getElem?_eq_getElem (by have:=HNL.out;omega)⟩
    have hxe:l[k]'(by have:=HNL.out;omega)=x:=by
     rw[List.getElem?_eq_getElem (by have:=HNL.out;omega)]at hx;injection hx
    rw[hxe]at hcs
    have z0:wr.cell? ⟨b,off+k,none⟩=some (.int .i64 x):=(HXR.out.cell (p:=⟨b,off+k,none⟩) hb).trans (by have:=hcs 0 _ rfl;simpa using this)
    have hxl:=HL.out x (List.mem_of_getElem? hx)
    have cO:=X1p x wr hxl.1 hxl.2
    have hw1:IntKind.i64.wrap ((k:Int)+1)=(k:Int)+1:=by rw[IntKind.wrap_i64];omega
    have HS1:Hid (s9++bts (ordL x)=bts (keyL (l.take (k+1)))):=by
     unfold Hid
     rw[hs9.out,Y1g,List.take_add_one,hx,keyL,keyL,List.flatMap_append]
     simp
    have hbz:(bts (ordL x)).size=8:=by rw[Z0h,Z1s]
    have HSZ:Hid ((s9++bts (ordL x)).size≤1000):=by
     rw[HS1.out,Z0h,Z1t,List.length_take]
     show 8*(min (k+1) l.length)≤1000
     omega
    generalize bts (ordL x)=bx at *
    have hsum:¬9223372036854775807<s9.size+bx.size:=by omega
    clear hcell hcs hx hxe hxl
    go_wp2_with (go_at_call 130;(with_reducible refine cO.mono ?_);clear cO;rintro e w2 ⟨rfl,hb2⟩;have HB2:=hD hb2;clear hb2)
    go_roundw
    case rel=>exact⟨k+1,s9++bx,by omega,by go_num,rfl,HSZ.out,HS1,Ext.trans HXR.out HB2.out⟩
    case measure=>simp only[intOf];omega
   ·obtain rfl:k=n:=by omega
    go_wp2_with fail
    go_ret2
    refine⟨?_,HXR.out⟩
    rw[HR.out,if_neg (by have:=HNL.out;omega),hs9.out,HNL.out,List.take_length]
    rfl
theorem X9c(l:List Int)(w:World)(hl:∀x∈l,-9223372036854775808≤x∧x≤9223372036854775807)(hn:l.length≤4):
  Calls Tryz.prog 72 #[.string (bts (keyL l))] w fun e w'=>∃v,e= .returned (.tuple #[v,.int .i64 0])∧OwnL w' w.heap.size 3 1 encN v l∧Ext w w':=by
 have HL:=hD hl
 obtain⟨s,hs⟩:∃s,bts (keyL l)=s:=⟨_,rfl⟩
 have hsz:s.size=8*l.length:=by rw[←hs,Z0h,Z1t]
 have T1:(s.size:Int)%8=0:=by omega
 have T1b:((s.size:Int)%8 !=0)=false:=by simp;omega
 have T2:decide ((32:Int)<(s.size:Int))=false:=decide_eq_false (by omega)
 have HS:=hD hs
 have HN:=hD hn
 rw[hs]
 clear hl hs hsz hn
 go_enter Tryz.func72,Tryz.ntmps72
 go_wp2_with fail
 clear T1 T1b
 go_loopw [0,4] (fun x v wr=>∃(k:Nat) (s9:ByteArray),k≤l.length∧x= .string s9∧Hid (s9.size=8*(l.length-k))∧Hid (s9=bts (keyL (l.drop k)))∧OwnL wr w.heap.size 3 1 encN v (l.take k)∧Ext w wr) (fun x _ _=>match x with | .string s=>s.size | _=>0)
 case atStart=>exact⟨0,s,by omega,rfl,hD (by rw[←HS.out,Z0h,Z1t];rfl),HS.out.symm,OwnL.nil _ _ _ _ _,Ext.refl w⟩
 case round=>
  obtain⟨k,s9,hk,rfl,hsz,hs9,ho,hxr⟩:=hrel
  obtain⟨T,hT⟩:∃T,l.take k=T:=⟨_,rfl⟩
  have hTl:T.length=k:=by rw[←hT,List.length_take];omega
  rw[hT]at ho
  obtain⟨A,c,rfl⟩:=ho.form
  rw[hTl]at ho ⊢
  have HO:=hD ho
  have HT:=hD hT
  have HTL:=hD hTl
  have HXR:=hD hxr
  have hz:=hxr.size
  clear hT hTl
  clear ho hxr
  by_cases hkn:k<l.length
  ·have hne:¬s9.toList= []:=X3a (by have:=hsz.out;omega)
   have hke:s9.toList.isEmpty=false:=by cases h9:s9.toList with | nil=>exact absurd h9 hne | cons _ _=>rfl
   obtain⟨x,hx⟩:∃x,l[k]? =some x:=⟨_,List.getElem?_eq_getElem hkn⟩
   have hxl:=HL.out x (List.mem_of_getElem? hx)
   have hdr:keyL (l.drop k)=ordL x++keyL (l.drop (k+1)):=by
    obtain⟨h1,h2⟩:=List.getElem?_eq_some_iff.1 hx
    rw[List.drop_eq_getElem_cons h1,h2,keyL,List.flatMap_cons];rfl
   have e1:s9.extract 0 8=bts (ordL x):=by
    rw[hs9.out,hdr]
    exact Z8q [] (ordL x) _ 0 8 rfl (by rw[Z1s])
   have e2:s9.extract 8 s9.size=bts (keyL (l.drop (k+1))):=by
    rw[hs9.out,hdr]
    exact Z2l (ordL x) _ 8 _ (Z1s x) (by rw[Z0h,List.length_append,Z1s])
   have cU:=Y6q (bts (ordL x)) (by rw[Z0h,Z1s]) wr
   rw[show (bts (ordL x)).data.toList=ordL x by simp[bts],Y8r x hxl.1 hxl.2]at cU
   have HTK:Hid (l.take (k+1)=l.take k++ [x]):=by unfold Hid;rw[List.take_add_one,hx];rfl
   have HE2:=hD (show s9.extract 8 s9.size=bts (keyL (l.drop (k+1)))from e2)
   obtain⟨s8,hs8⟩:∃s8,s9.extract 8 s9.size=s8:=⟨_,rfl⟩
   have HS8:Hid (s8=bts (keyL (l.drop (k+1)))):=hs8▸e2
   have HZ8:Hid (s8.size=8*(l.length-(k+1))):=by unfold Hid;rw[HS8.out,Z0h,Z1t,List.length_drop]
   rw[hs8]at e2
   have h8:8≤s9.size:=by have:=hsz.out;omega
   have h8i:(8:Int)≤s9.size:=by omega
   generalize bts (ordL x)=bx at *
   have HTL1:Hid ((T++ [x]).length=k+1):=by unfold Hid;rw[List.length_append,HTL.out];rfl
   have HLT:Hid (T.length≤4):=by have:=HN.out;have:=HTL.out;unfold Hid;omega
   clear hx hdr e2 hxl
   go_wp2_with (first
    | (go_at_call 134;(with_reducible refine cU.mono ?_);clear cU;rintro e w2 ⟨rfl,rfl⟩)
    | (at_builtin;refine Z0t elInt Z0j Z2p rfl (.tmp 26) (.tmp 28) rfl (.slice A k c) T rfl (HO.out.ext (by exact Xt)) (by simp;omega) _ 1 x rfl (Row1.made' (by simp) _ (encN x)) (by have:=HLT.out;omega) (by decide) ?_;intro A' c' w2 hown2 hgr hwh;rw[HTL1.out]at hown2 ⊢;have HO2:=hD hown2;have HG2:=hD (OwnL.grown (HO.out.ext (by exact Xt)) (Ext.trans HXR.out (by exact Xt)) hgr (Nat.le_refl _));clear hown2 hgr hwh))
   go_roundw
   case rel=>exact⟨k+1,s8,by omega,rfl,HZ8,HS8,by rw[HTK.out,HT.out];exact HO2.out,HG2.out⟩
   case measure=>show s8.size<s9.size;have:=HZ8.out;have:=hsz.out;omega
  ·obtain rfl:k=l.length:=by omega
   have hs0:s9=⟨#[]⟩:=by apply Y4k;rw[hs9.out,List.drop_length];rfl
   subst hs0
   go_wp2_with fail
   go_ret2
   exact⟨_,rfl,by have h9:=HO.out;rw[←HT.out,List.take_length]at h9;exact h9,HXR.out⟩
theorem X8r{p i:Nat}{F:Nat→Prop}{S:StoreD}(w:World)(h:PagerAt w p F S)(hi:i<16):
  Calls Tryz.prog 117 #[.pointer (some ⟨p,0,none⟩),.int .i64 i] w fun e w'=>∃t F',e= .returned (.tuple #[.pointer (some ⟨t,0,none⟩),.int .i64 0])∧Z0b w' t p i∧PagerAt w' p F' S∧Keeps F F' w w'∧¬F' t∧w.heap.size≤t:=by
 have cR:=Y7b i w h hi
 clear h hi
 go_enter Tryz.func117,Tryz.ntmps117
 go_wp2_with (go_at_call 170;(with_reducible refine cR.mono ?_);clear cR;rintro e w1 ⟨rfl,F1,hp1,hk1⟩;have HP1:=hD hp1.shrink;have HK1:=hD (Keeps.shrink (P:=fun i=>i<w1.heap.size) hk1);clear hp1 hk1)
 go_ret2
 exact⟨w1.heap.size,_,rfl,Row1.made w1 _ _,HP1.out.ext (Ext.alloc _ _),HK1.out.ext (Ext.alloc _ _),fun q=>absurd q.2 (Nat.lt_irrefl _),HK1.out.only.size⟩
abbrev tp(t:Nat):Value:= .pointer (some ⟨t,0,none⟩)
def tblC(ts:Nat→Nat)(k:Nat):List Value:=(List.range 5).map fun j=>if j<k then tp (ts j)else .pointer none
theorem Y6t(ts:Nat→Nat)(k j:Nat)(hj:j<5):(tblC ts k)[j]? =some (if j<k then tp (ts j)else .pointer none):=by
 unfold tblC
 rw[List.getElem?_map,List.getElem?_range hj]
 rfl
theorem V4h(ts:Nat→Nat)(k t:Nat)(hk:k<5):(tblC ts k).set k (tp t)=tblC (fun j=>if j=k then t else ts j) (k+1):=by
 apply List.ext_getElem?
 intro j
 by_cases hj:j<5
 ·rw[Y6t _ _ _ hj,List.getElem?_set,Y6t _ _ _ hj]
  have hl:(tblC ts k).length=5:=by simp[tblC]
  by_cases e:k=j
  ·subst e
   rw[if_pos rfl,if_pos (by rw[hl];exact hk),if_pos (by omega),if_pos rfl]
  ·rw[if_neg e]
   by_cases h:j<k
   ·rw[if_pos h,if_pos (by omega),if_neg (by omega)]
   ·rw[if_neg h,if_neg (by omega)]
 ·rw[List.getElem?_eq_none (by simp[tblC];omega),List.getElem?_eq_none (by simp[tblC];omega)]
abbrev X0v(w:World)(tb:Nat)(ts:Nat→Nat):Prop:=Row1 w tb 119 (tblC ts 5)
structure TblAt (w:World) (tb p:Nat) (ts:Nat→Nat) (F:Nat→Prop):Prop where
 row:X0v w tb ts
 tree:∀j,j<5→Z0b w (ts j) p j
 out:¬F tb
 outs:∀j,j<5→¬F (ts j)
structure OpnR (w:World) (p:Nat) (F:Nat→Prop) (S:StoreD) (k:Nat) (wr:World) (ts:Nat→Nat) (F1:Nat→Prop):Prop where
 row:Row1 wr w.heap.size 119 (tblC ts k)
 pag:PagerAt wr p F1 S
 keep:Keeps F F1 w wr
 out:¬F1 w.heap.size
 tree:∀j,j<k→Z0b wr (ts j) p j∧¬F1 (ts j)∧w.heap.size<ts j
theorem Y8u{p:Nat}{F:Nat→Prop}{S:StoreD}(w:World)(h:PagerAt w p F S):
  Calls Tryz.prog 54 #[.pointer (some ⟨p,0,none⟩)] w fun e w'=>∃tb ts F',e= .returned (.tuple #[.pointer (some ⟨tb,0,none⟩),.int .i64 0])∧TblAt w' tb p ts F'∧PagerAt w' p F' S∧Keeps F F' w w'∧w.heap.size≤tb∧∀j,j<5→w.heap.size≤ts j:=by
 have HP:=hD h.shrink
 clear h
 go_enter Tryz.func54,Tryz.ntmps54
 go_wp2_with fail
 go_loopw [10] (fun i wr=>∃k ts F1,k≤5∧i= .int .i64 (k:Nat)∧OpnR w p F S k wr ts F1) (fun i _=>5-(intOf i).toNat)
 case atStart=>exact⟨0,fun _=>0,_,by omega,rfl,⟨Row1.made' rfl _ (tblC (fun _=>0) 0),HP.out.ext (by exact Xt),(Keeps.of (by exact Xt)).shrink,fun q=>absurd q.2 (Nat.lt_irrefl _),fun j hj=>absurd hj (by omega)⟩⟩
 case round=>
  obtain⟨k,ts,F1,hk,rfl,hr⟩:=hrel
  have HR:=hD hr
  clear hr
  by_cases hkl:k<5
  ·have q1:decide ((k:Int)<5)=true:=decide_eq_true (by omega)
   have cO:=X8r (i:=k) wr HR.out.pag (by omega)
   go_upto_region 8 with (go_at_call 117;(with_reducible refine cO.mono ?_);clear cO;rintro e w1 ⟨t,F2,rfl,ht1,hp1,hk1,hn1,hs1⟩)
   have hR1:=hk1.only.row HR.out.row HR.out.out
   have c0:w1.cell? ⟨w.heap.size,k,none⟩=some (.pointer none):=by rw[hR1.cell k,Y6t _ _ _ hkl,if_neg (by omega)]
   have f0:w1.frozen? ⟨w.heap.size,k,none⟩=false:=hR1.soft k
   have hsz:=hk1.only.size
   have hgl:=HR.out.row.lt
   have HREL:Hid (∀W,W=w1.setCell ⟨w.heap.size,k,none⟩ (tp t)→OpnR w p F S (k+1) W (fun j=>if j=k then t else ts j) (fun i=>F2 i∧i<w1.heap.size)):=by
    rintro W rfl
    have hout:¬F2 w.heap.size:=hk1.out hgl HR.out.out
    refine⟨?_,hp1.shrink.only (Only.setCell (F:=fun i=>i=w.heap.size) (p:=⟨w.heap.size,k,none⟩) Only.refl (.inl rfl) _) (fun i q e=>hout (e▸q.1)),⟨((HR.out.keep.trans hk1).only.setCell (p:=⟨w.heap.size,k,none⟩) (.inr (Nat.le_refl _)) _),(Keeps.shrink (HR.out.keep.trans hk1)).new⟩,fun q=>hout q.1,fun j hj=> ?_⟩
    ·rw[←V4h _ _ _ hkl];exact hR1.set k _
    ·by_cases e:j=k
     ·subst e
      rw[if_pos rfl]
      exact⟨ht1.setFar (fun e=>absurd hs1 (by rw[e];exact Nat.not_le.2 hgl)) _,fun q=>hn1 q.1,by omega⟩
     ·rw[if_neg e]
      have h1:=HR.out.tree j (by omega)
      have h2:=hk1.only.row h1.1 h1.2.1
      exact⟨h2.setFar (fun e=>absurd h1.2.2 (by rw[e];exact Nat.lt_irrefl _)) _,fun q=>hk1.out h1.1.lt h1.2.1 q.1,h1.2.2⟩
   clear ht1 hp1 hk1 hn1
   go_wp2_with fail
   go_roundw
   case rel=>exact⟨k+1,_,_,by omega,by go_num,HREL.out _ rfl⟩
   case measure=>simp[intOf];omega
  ·obtain rfl:k=5:=by omega
   go_wp2_with fail
   go_ret2
   have h1:=HR.out
   exact⟨_,ts,F1,rfl,⟨h1.row,fun j hj=>(h1.tree j hj).1,h1.out,fun j hj=>(h1.tree j hj).2.1⟩,h1.pag,h1.keep,Nat.le_refl _,fun j hj=>Nat.le_of_lt (h1.tree j hj).2.2⟩
theorem X1e{p:Nat}{F:Nat→Prop}{S:StoreD}(w:World)(h:PagerAt w p F S):
  Calls Tryz.prog 54 #[.pointer (some ⟨p,0,none⟩)] w fun e w'=>∃tb ts F',e= .returned (.tuple #[.pointer (some ⟨tb,0,none⟩),.int .i64 0])∧TblAt w' tb p ts F'∧PagerAt w' p F' S∧Keeps F F' w w'∧w.heap.size≤tb:=
 (Y8u w h).mono (fun e w' ⟨tb,ts,F',q1,q2,q3,q4,q5,_⟩=>⟨tb,ts,F',q1,q2,q3,q4,q5⟩)
theorem Z3j{tb:Nat}{ts:Nat→Nat}(w:World)(h:X0v w tb ts):Calls Tryz.prog 70 #[.pointer (some ⟨tb,0,none⟩)] w fun e w'=>e= .returned (.bool true)∧w=w':=by
 have c0:w.cell? ⟨tb,0,none⟩=some (tp (ts 0)):=h.cell 0
 clear h
 go_enter Tryz.func70,Tryz.ntmps70
 go_wp2_with fail
 go_ret
 exact⟨rfl,rfl⟩
def endI(o:OpD):Int:=if o.done=true then o.ret else 1099511627777
def wayL(i:Nat)(o:OpD):List Int:=match i with
 | 0=> [o.id]
 | 1=> [o.object,o.invoke,o.id]
 | 2=> [o.object,endI o,o.id]
 | 3=> [o.proc,o.invoke,o.id]
 | _=> [o.method,o.id]
def wayK(i:Nat)(o:OpD):ByteArray:=bts (keyL (wayL i o))
def In64(x:Int):Prop:= -9223372036854775808≤x∧x≤9223372036854775807
theorem Z3q(i:Nat)(o:OpD):1≤(wayL i o).length∧(wayL i o).length≤3:=by unfold wayL;split<;>simp
theorem Y2m(i:Nat)(o:OpD):Z3g (wayK i o):=by
 unfold Z3g wayK
 rw[Z0h,Z1t]
 have:=Z3q i o
 omega
theorem Z5n(l:List Int)(W:World)(h4:l.length≤4)(hl:∀x∈l,In64 x):
  Calls Tryz.prog 68 #[.slice (some ⟨W.heap.size,0,none⟩) l.length l.length] (W.alloc (.cells (l.map (fun x=>Value.int .i64 x)).toArray 3)) fun e w'=>e= .returned (.tuple #[.string (bts (keyL l)),.int .i64 0])∧Ext W w':=by
 have hs:Sl (W.alloc (.cells (l.map (fun x=>Value.int .i64 x)).toArray 3)) 1 (fun x cs=>cs=encN x) (.slice (some ⟨W.heap.size,0,none⟩) l.length l.length) l:=by
  refine Sl.laid (Row1.made W 3 _) rfl (Nat.le_refl _) (by unfold maxLen;omega) (fun i x hi=>⟨_,rfl,rfl,fun j u hu=> ?_⟩)
  cases j with
  | zero=>
    have hu:some (Value.int .i64 x)=some u:=hu
    rw[Nat.mul_one,Nat.add_zero,List.getElem?_map,hi]
    exact hu
  | succ j=>simp[encN]at hu
 refine(V0o l _ hs hl (by omega)).mono ?_
 rintro e w' ⟨rfl,hx⟩
 refine⟨?_,(Ext.alloc _ _).trans hx⟩
 unfold OfR
 rw[if_neg (by omega)]
theorem U0e(o:OpD)(w:World):Calls Tryz.prog 181 #[o.val] w fun e w'=>e= .returned (.int .i64 (endI o))∧Ext w w':=by
 obtain⟨h0,h1,h2,h3,h4,h5,h6,h7,h8,h9,h10⟩:=At11.row (Row1.made w 32 o.cells)
 have HE:Hid (endI o=if o.done=true then o.ret else 1099511627777):=rfl
 go_enter Tryz.func181,Tryz.ntmps181
 cases hd:o.done with
 | true=>
   rw[hd]at h7
   go_wp2_with fail
   go_ret
   exact⟨Y2w (by rw[HE.out,if_pos hd]),by exact Xt⟩
 | false=>
   rw[hd]at h7
   go_wp2_with fail
   go_ret
   exact⟨Y2w (by rw[HE.out,if_neg (by rw[hd];simp)]),by exact Xt⟩
theorem Z8u(i:Nat)(o:OpD)(w:World)(hi:i<5)(hl:∀x∈wayL i o,In64 x):
  Calls Tryz.prog 120 #[.int .i64 i,o.val] w fun e w'=>e= .returned (.string (wayK i o))∧Ext w w':=by
 have HBX:Hid (∀W:World,Ext (w.alloc (.cells #[.int .i64 o.id,.int .i64 o.proc,.int .i64 o.object,.int .i64 o.kind,.int .i64 o.method,.int .i64 o.arg,.int .i64 o.second,.bool o.done,.int .i64 o.result,.int .i64 o.invoke,.int .i64 o.ret] 32)) W→At11 W w.heap.size o):=fun W h=>(At11.row (Row1.made w 32 o.cells)).ext h (by simp)
 obtain⟨h0,h1,h2,h3,h4,h5,h6,h7,h8,h9,h10⟩:=HBX.out _ (Ext.refl _)
 rcases(show i=0∨i=1∨i=2∨i=3∨i=4 from by omega)with rfl | rfl | rfl | rfl | rfl
 ·have cO:Hid (∀(W:World) (n:Nat),W.heap.size=n→Calls Tryz.prog 68 #[.slice (some ⟨n,0,none⟩) 1 1] (W.alloc (.cells #[.int .i64 o.id] 3)) fun e w'=>e= .returned (.tuple #[.string (wayK 0 o),.int .i64 0])∧Ext W w'):=fun W n hn=>by subst hn;exact Z5n [o.id] W (by simp) hl
  generalize hk:wayK 0 o=k at cO
  clear hl
  go_enter Tryz.func120,Tryz.ntmps120
  go_wp2_with (go_at_call 68;(with_reducible refine(cO.out _ _ ?_).mono ?_);(· simp);clear cO;rintro e w1 ⟨rfl,hb1⟩;have HB1:=hD hb1;clear hb1)
  go_ret
  subst hk
  exact⟨rfl,(Ext.alloc _ _).trans HB1.out⟩
 ·have cO:Hid (∀(W:World) (n:Nat),W.heap.size=n→Calls Tryz.prog 68 #[.slice (some ⟨n,0,none⟩) 3 3] (W.alloc (.cells #[.int .i64 o.object,.int .i64 o.invoke,.int .i64 o.id] 3)) fun e w'=>e= .returned (.tuple #[.string (wayK 1 o),.int .i64 0])∧Ext W w'):=fun W n hn=>by subst hn;exact Z5n [o.object,o.invoke,o.id] W (by simp) hl
  generalize hk:wayK 1 o=k at cO
  clear hl
  go_enter Tryz.func120,Tryz.ntmps120
  go_wp2_with (go_at_call 68;(with_reducible refine(cO.out _ _ ?_).mono ?_);(· simp);clear cO;rintro e w1 ⟨rfl,hb1⟩;have HB1:=hD hb1;clear hb1)
  go_ret
  subst hk
  exact⟨rfl,(Ext.alloc _ _).trans HB1.out⟩
 ·have cO:Hid (∀(W:World) (n:Nat),W.heap.size=n→Calls Tryz.prog 68 #[.slice (some ⟨n,0,none⟩) 3 3] (W.alloc (.cells #[.int .i64 o.object,.int .i64 (endI o),.int .i64 o.id] 3)) fun e w'=>e= .returned (.tuple #[.string (wayK 2 o),.int .i64 0])∧Ext W w'):=fun W n hn=>by subst hn;exact Z5n [o.object,endI o,o.id] W (by simp) hl
  have cE:Hid (∀W,Calls Tryz.prog 181 #[.agg #[.int .i64 o.id,.int .i64 o.proc,.int .i64 o.object,.int .i64 o.kind,.int .i64 o.method,.int .i64 o.arg,.int .i64 o.second,.bool o.done,.int .i64 o.result,.int .i64 o.invoke,.int .i64 o.ret]] W fun e w'=>e= .returned (.int .i64 (endI o))∧Ext W w'):=fun W=>U0e o W
  generalize hk:wayK 2 o=k at cO
  generalize endI o=en at *
  clear hl
  go_enter Tryz.func120,Tryz.ntmps120
  go_upto_region 8 with fail
  generalize hW0:w.alloc _=W0 at *
  have HX0:Hid (Ext w W0):=by unfold Hid;rw[←hW0];exact Ext.alloc _ _
  clear h0 h1 h2 h3 h4 h5 h6 h7 h8 h9 h10 hW0
  refine wp_region_held_drew (S:=fun W=>(W.cell? ⟨w.heap.size,0,none⟩=some (.int .i64 o.id)∧W.cell? ⟨w.heap.size,1,none⟩=some (.int .i64 o.proc)∧W.cell? ⟨w.heap.size,2,none⟩=some (.int .i64 o.object)∧W.cell? ⟨w.heap.size,3,none⟩=some (.int .i64 o.kind)∧W.cell? ⟨w.heap.size,4,none⟩=some (.int .i64 o.method)∧W.cell? ⟨w.heap.size,5,none⟩=some (.int .i64 o.arg)∧W.cell? ⟨w.heap.size,6,none⟩=some (.int .i64 o.second)∧W.cell? ⟨w.heap.size,7,none⟩=some (.bool o.done)∧W.cell? ⟨w.heap.size,8,none⟩=some (.int .i64 o.result)∧W.cell? ⟨w.heap.size,9,none⟩=some (.int .i64 o.invoke)∧W.cell? ⟨w.heap.size,10,none⟩=some (.int .i64 o.ret))) (by kernel_rfl) (HBX.out _ (by exact Xt)) (fun hHeld=> ?_)
  refine' tk 0 ?_
  refine' tk 1 ?_
  refine' tk 2 ?_
  refine' tk 4 ?_
  refine' tk 5 ?_
  refine stp 3 (fun K hK=> ?_);go_simp
  (with_reducible refine(cE.out _).mono ?_)
  rintro e w1 ⟨rfl,hb1⟩
  have HB1:Hid (Ext W0 w1):=Ext.trans (by exact Xt) hb1
  have hz1:=HB1.out.size
  clear hb1
  (try dsimp only)
  (try go_simp)
  refine hK.out _ _ (HBX.out _ (by exact Xx (HB1.out))) (fun hHeld=> ?_)
  clear hK K
  refine pt ?_
  refine stp 6 (fun K hK=> ?_);go_simp
  refine hK.out _ _ (HBX.out _ (by exact Xx (HB1.out))) (fun hHeld=> ?_)
  clear hK K
  refine pt ?_
  refine stp 7 (fun K hK=> ?_);go_simp
  (with_reducible refine(cO.out _ _ ?_).mono ?_)
  ·simp
  rintro e w2 ⟨rfl,hb2⟩
  have HB2:Hid (Ext W0 w2):=Ext.trans (by exact Xx (HB1.out)) hb2
  have hz2:=HB2.out.size
  clear hb2
  (try dsimp only)
  (try go_simp)
  refine hK.out _ _ (HBX.out _ (by exact Xx (HB2.out))) (fun hHeld=> ?_)
  clear hK K
  refine pt ?_
  refine' tk 8 ?_
  refine' tk 9 ?_
  refine' tk 10 ?_
  refine' tk 11 ?_
  refine wpAnyH_done (by kernel_rfl) ?_ _
  go_wp2_with fail
  go_ret
  subst hk
  exact⟨rfl,HX0.out.trans HB2.out⟩
 ·have cO:Hid (∀(W:World) (n:Nat),W.heap.size=n→Calls Tryz.prog 68 #[.slice (some ⟨n,0,none⟩) 3 3] (W.alloc (.cells #[.int .i64 o.proc,.int .i64 o.invoke,.int .i64 o.id] 3)) fun e w'=>e= .returned (.tuple #[.string (wayK 3 o),.int .i64 0])∧Ext W w'):=fun W n hn=>by subst hn;exact Z5n [o.proc,o.invoke,o.id] W (by simp) hl
  generalize hk:wayK 3 o=k at cO
  clear hl
  go_enter Tryz.func120,Tryz.ntmps120
  go_wp2_with (go_at_call 68;(with_reducible refine(cO.out _ _ ?_).mono ?_);(· simp);clear cO;rintro e w1 ⟨rfl,hb1⟩;have HB1:=hD hb1;clear hb1)
  go_ret
  subst hk
  exact⟨rfl,(Ext.alloc _ _).trans HB1.out⟩
 ·have cO:Hid (∀(W:World) (n:Nat),W.heap.size=n→Calls Tryz.prog 68 #[.slice (some ⟨n,0,none⟩) 2 2] (W.alloc (.cells #[.int .i64 o.method,.int .i64 o.id] 3)) fun e w'=>e= .returned (.tuple #[.string (wayK 4 o),.int .i64 0])∧Ext W w'):=fun W n hn=>by subst hn;exact Z5n [o.method,o.id] W (by simp) hl
  generalize hk:wayK 4 o=k at cO
  clear hl
  go_enter Tryz.func120,Tryz.ntmps120
  go_wp2_with (go_at_call 68;(with_reducible refine(cO.out _ _ ?_).mono ?_);(· simp);clear cO;rintro e w1 ⟨rfl,hb1⟩;have HB1:=hD hb1;clear hb1)
  go_ret
  subst hk
  exact⟨rfl,(Ext.alloc _ _).trans HB1.out⟩
theorem X2m:∀(l:List UInt8) (u:Nat),l.foldl (fun u c=>u*256+c.toNat) u=u*256 ^ l.length+beN l
 | [],u=>by simp[beN]
 | c::r,u=>by
   rw[List.foldl_cons,X2m r,List.length_cons,Nat.pow_succ]
   have h1:beN (c::r)=c.toNat*256 ^ r.length+beN r:=by
    unfold beN
    rw[List.foldl_cons,X2m r]
    simp[beN]
   rw[h1,Nat.add_mul,Nat.mul_assoc,Nat.mul_comm 256]
   omega
theorem X5c(c:UInt8)(r:List UInt8):beN (c::r)=c.toNat*256 ^ r.length+beN r:=by
 have h:beN (c::r)=r.foldl (fun u c=>u*256+c.toNat) (0*256+c.toNat):=rfl
 rw[h,X2m];simp
theorem V8i:∀(l r:List UInt8),l.length=r.length→(l<r↔beN l<beN r)
 | [],[],_=>by simp[beN]
 | [],_::_,h=>by cases h
 | _::_,[],h=>by cases h
 | a::l,b::r,h=>by
   have hl:l.length=r.length:=by simpa using h
   have ih:=V8i l r hl
   have h1:=V3p l
   have h2:=V3p r
   rw[List.cons_lt_cons_iff,X5c,X5c,ih,UInt8.lt_iff_toNat_lt,hl]
   rw[hl]at h1
   constructor
   ·rintro(q | ⟨rfl,q⟩)
    ·have h3:(a.toNat+1)*256 ^ r.length≤b.toNat*256 ^ r.length:=Nat.mul_le_mul_right _ q
     rw[Nat.add_mul]at h3
     omega
    ·omega
   ·intro q
    rcases Nat.lt_trichotomy a.toNat b.toNat with e | e | e
    ·exact .inl e
    ·refine .inr ⟨UInt8.toNat_inj.1 e,?_⟩
     rw[e]at q
     omega
    ·have h3:(b.toNat+1)*256 ^ r.length≤a.toNat*256 ^ r.length:=Nat.mul_le_mul_right _ e
     rw[Nat.add_mul]at h3
     omega
theorem V8o:∀(l r x y:List UInt8),l.length=r.length→(l++x<r++y↔l<r∨(l=r∧x<y))
 | [],[],x,y,_=>by simp
 | [],_::_,_,_,h=>by cases h
 | _::_,[],_,_,h=>by cases h
 | a::l,b::r,x,y,h=>by
   rw[List.cons_append,List.cons_append,List.cons_lt_cons_iff,List.cons_lt_cons_iff,V8o l r x y (by simpa using h)]
   constructor
   ·rintro(q | ⟨rfl,q | ⟨rfl,q⟩⟩)
    ·exact .inl (.inl q)
    ·exact .inl (.inr ⟨rfl,q⟩)
    ·exact .inr ⟨rfl,q⟩
   ·rintro((q | ⟨rfl,q⟩) | ⟨e,q⟩)
    ·exact .inl q
    ·exact .inr ⟨rfl,.inl q⟩
    ·injection e with e1 e2
     exact .inr ⟨e1,.inr ⟨e2,q⟩⟩
theorem Y8e{n:Int}(h:Z7l n):(beN (ordL n):Int)=n+9223372036854775808:=by
 have:=Y8r n h.1 h.2
 unfold Y5h at this
 omega
theorem X3w{a b:Int}(ha:Z7l a)(hb:Z7l b)(h:ordL a=ordL b):a=b:=by
 have h1:=Y8e ha
 have h2:=Y8e hb
 rw[h]at h1
 omega
theorem V9n{a b:Int}(ha:Z7l a)(hb:Z7l b):ordL a<ordL b↔a<b:=by
 rw[V8i _ _ (by rw[Z1s,Z1s])]
 have h1:=Y8e ha
 have h2:=Y8e hb
 omega
theorem Z7a(x:Int)(l:List Int):keyL (x::l)=ordL x++keyL l:=by unfold keyL;rw[List.flatMap_cons]
theorem V9m(x:Int):ordL x≠ []:=fun e=>by have:=Z1s x;rw[e]at this;cases this
theorem V1j:∀(a b:List Int),(∀x∈a,Z7l x)→(∀x∈b,Z7l x)→(keyL a<keyL b↔a<b)
 | [],[],_,_=>by simp[keyL]
 | [],y::b,_,_=>by
   rw[Z7a]
   have h:keyL []= []:=rfl
   rw[h]
   cases e:ordL y with
   | nil=>exact absurd e (V9m y)
   | cons c r=>simp
 | x::a,[],_,_=>by
   have h:keyL []= []:=rfl
   rw[h]
   exact⟨fun q=>absurd q (List.not_lt_nil _),fun q=>absurd q (List.not_lt_nil _)⟩
 | x::a,y::b,ha,hb=>by
   have hx:=ha x (by simp)
   have hy:=hb y (by simp)
   rw[Z7a,Z7a,V8o _ _ _ _ (by rw[Z1s,Z1s]),List.cons_lt_cons_iff,V9n hx hy,V1j a b (fun z hz=>ha z (by simp[hz])) (fun z hz=>hb z (by simp[hz]))]
   constructor
   ·rintro(q | ⟨q1,q2⟩)
    ·exact .inl q
    ·exact .inr ⟨X3w hx hy q1,q2⟩
   ·rintro(q | ⟨rfl,q2⟩)
    ·exact .inl q
    ·exact .inr ⟨rfl,q2⟩
def keyB(l:List Int):ByteArray:=bts (keyL l)
theorem V9y{a b:List Int}(ha:∀x∈a,Z7l x)(hb:∀x∈b,Z7l x):ltB (keyB a) (keyB b)=true↔a<b:=by
 unfold keyB
 rw[Z5x,Z1o,Z1o,V1j a b ha hb]
theorem Y7r:∀(a b:List Int),(∀x∈a,Z7l x)→(∀x∈b,Z7l x)→keyL a=keyL b→a=b
 | [],[],_,_,_=>rfl
 | [],y::b,_,_,h=>by
   have:=congrArg List.length h
   rw[Z1t,Z1t]at this
   simp at this
 | x::a,[],_,_,h=>by
   have:=congrArg List.length h
   rw[Z1t,Z1t]at this
   simp at this
 | x::a,y::b,ha,hb,h=>by
   rw[Z7a,Z7a]at h
   obtain⟨h1,h2⟩:=List.append_inj h (by rw[Z1s,Z1s])
   rw[X3w (ha x (by simp)) (hb y (by simp)) h1,Y7r a b (fun z hz=>ha z (by simp[hz])) (fun z hz=>hb z (by simp[hz])) h2]
theorem V6g{a b:List Int}(ha:∀x∈a,Z7l x)(hb:∀x∈b,Z7l x)(h:keyB a=keyB b):a=b:=by
 have h1:(keyB a).data.toList=(keyB b).data.toList:=by rw[h]
 unfold keyB at h1
 rw[Z1o,Z1o]at h1
 exact Y7r a b ha hb h1
def recW(i:Nat)(o:OpD):ByteArray:=if i=0 then bts (opL o)else⟨#[]⟩
theorem OpIn.way{o:OpD}(h:OpIn o)(i:Nat):∀x∈wayL i o,In64 x:=by
 have h1:=h.nums
 have h2:=h.id
 have h3:endI o≤1099511627777∧0≤endI o:=by
  unfold endI
  split
  ·rename_i hd;have:=h.yes hd;have:=h.invoke;omega
  ·omega
 have hm:∀x∈opV o,In64 x:=fun x hx=>by have:=h1 x hx;unfold In64;omega
 unfold wayL
 intro x hx
 split at hx<;>simp only[List.mem_cons,List.not_mem_nil,or_false]at hx
 ·subst hx;exact hm _ (by simp[opV])
 ·rcases hx with rfl | rfl | rfl<;>exact hm _ (by simp[opV])
 ·rcases hx with rfl | rfl | rfl
  ·exact hm _ (by simp[opV])
  ·unfold In64;omega
  ·exact hm _ (by simp[opV])
 ·rcases hx with rfl | rfl | rfl<;>exact hm _ (by simp[opV])
 ·rcases hx with rfl | rfl<;>exact hm _ (by simp[opV])
theorem Z6m(i:Nat)(o:OpD):(wayL i o).getLast? =some o.id:=by unfold wayL;split<;>rfl
theorem Y1w{i:Nat}{a b:OpD}(ha:∀x∈wayL i a,In64 x)(hb:∀x∈wayL i b,In64 x)(h:wayK i a=wayK i b):a.id=b.id:=by
 have:=V6g ha hb h
 have h1:=Z6m i a
 rw[this,Z6m i b]at h1
 injection h1 with h1
 exact h1.symm
theorem Z9e(i:Nat){o:OpD}(h:OpIn o):(recW i o).size≤80:=by
 unfold recW
 split
 ·rw[Z0h];have:=V0m h;omega
 ·simp[ByteArray.size]
theorem V1t{l:List KV}(h:Z8c l)(k v:ByteArray)(x:KV):x∈Z6k l k v↔x=(k,v)∨(x∈l∧x.1≠k):=by
 unfold Z6k
 rw[List.mem_append,List.mem_cons,List.mem_filter,List.mem_filter]
 constructor
 ·rintro(⟨h1,h2⟩ | h1 | ⟨h1,h2⟩)
  ·exact .inr ⟨h1,Z2y h2⟩
  ·exact .inl h1
  ·exact .inr ⟨h1,fun e=>Z2y h2 e.symm⟩
 ·rintro(h1 | ⟨h1,h2⟩)
  ·exact .inr (.inl h1)
  ·cases hlt:ltB x.1 k with
   | true=>exact .inl ⟨h1,rfl⟩
   | false=>
     cases hgt:ltB k x.1 with
     | true=>exact .inr (.inr ⟨h1,rfl⟩)
     | false=>exact absurd (Y7m hlt hgt) h2
def updF{α:Type}(f:Nat→α)(i:Nat)(v:α):Nat→α:=fun j=>if j=i then v else f j
theorem Z0w{α:Type}(f:Nat→α)(i:Nat)(v:α):updF f i v i=v:=by unfold updF;rw[if_pos rfl]
theorem Z0p{α:Type}(f:Nat→α){i j:Nat}(v:α)(h:j≠i):updF f i v j=f j:=by unfold updF;rw[if_neg h]
def depT:TrD→Nat
 | .no=>0
 | .yes d _=>d+1
theorem Y2e(T:TrD):T.need=depT T+1:=by cases T<;>rfl
theorem Z9q{T:TrD}(h:depT T≤31):T.fine:=by cases T with
 | no=>trivial
 | yes d t=>have:d+1≤31:=h;show d<31;omega
theorem X9s{S S':StoreD}{i:Nat}{k v:ByteArray}{T T':TrD}(h:Y1u S i k v S' T' T):depT T'≤depT T+1:=by
 cases T with
 | no=>obtain⟨a,_,_,rfl⟩:=h;exact Nat.le_refl _
 | yes d t=>
   obtain⟨S1,t',o,_,hm⟩:=h
   cases o with
   | none=>obtain⟨_,rfl⟩:=hm;exact Nat.le_succ _
   | some x=>obtain⟨top,_,_,rfl⟩:=hm;exact Nat.le_refl _
structure Tab (S:StoreD) (Ts:Nat→TrD) (L:Nat→List OpD):Prop where
 fm:Fm S
 tr:∀i,i<5→TrS S i (Ts i)
 disj:∀i j,i<5→j<5→i≠j→∀b∈(Ts i).pages,b∉(Ts j).pages
 ok:∀i,i<5→∀o∈L i,Z2e o=0
 ids:∀i,i<5→(L i).Pairwise (fun a b=>a.id≠b.id)
 mem:∀i,i<5→∀x:KV,x∈(Ts i).list↔∃o∈L i,x=(wayK i o,recW i o)
theorem Tab.put{S S':StoreD}{Ts:Nat→TrD}{L:Nat→List OpD}{i:Nat}{o:OpD}{T':TrD}{F:List Nat}(h:Tab S Ts L)(hi:i<5)(ho:Z2e o=0)(hn:∀x∈L i,x.id≠o.id)(hp:PutTL S i (Ts i) (wayK i o) (recW i o) S' T' F):Tab S' (updF Ts i T') (updF L i (o::L i)):=by
 have hfr:∀j,j<5→∀b∈(Ts j).pages,b∉F:=fun j hj b hb q=>by
  have h1:=((h.tr j hj).given b hb).2.2
  rw[(hp.fresh b q).1]at h1;cases h1
 refine⟨h.fm.big hp.big (fun b q=>by cases q),fun j hj=> ?_,fun j k hj hk hne b hb=> ?_,fun j hj x hx=> ?_,fun j hj=> ?_,fun j hj x=> ?_⟩
 ·by_cases e:j=i
  ·subst e;rw[Z0w];exact hp.tr
  ·rw[Z0p _ _ e]
   exact TrS.other hp.big (by omega) e (h.tr j hj) (fun b hb=>⟨fun q=>h.disj j i hj hi e b hb q,hfr j hj b hb,by simp⟩)
 ·by_cases e:j=i
  ·subst e
   rw[Z0w]at hb
   rw[Z0p _ _ (Ne.symm hne)]
   rcases List.mem_append.1 (hp.pages.mem_iff.1 hb)with q | q
   ·exact h.disj j k hj hk hne b q
   ·exact fun r=>hfr k hk b r q
  ·rw[Z0p _ _ e]at hb
   by_cases e2:k=i
   ·subst e2
    rw[Z0w]
    intro q
    rcases List.mem_append.1 (hp.pages.mem_iff.1 q)with q | q
    ·exact h.disj j k hj hk hne b hb q
    ·exact hfr j hj b hb q
   ·rw[Z0p _ _ e2];exact h.disj j k hj hk hne b hb
 ·by_cases e:j=i
  ·subst e
   rw[Z0w]at hx
   rcases List.mem_cons.1 hx with rfl | hx
   ·exact ho
   ·exact h.ok j hj x hx
  ·rw[Z0p _ _ e]at hx;exact h.ok j hj x hx
 ·by_cases e:j=i
  ·subst e
   rw[Z0w]
   exact List.pairwise_cons.2 ⟨fun x hx=>(hn x hx).symm,h.ids j hj⟩
  ·rw[Z0p _ _ e];exact h.ids j hj
 ·by_cases e:j=i
  ·subst e
   rw[Z0w,Z0w,hp.list,V1t (h.tr j hj).rise]
   constructor
   ·rintro(rfl | ⟨h1,h2⟩)
    ·exact⟨o,List.mem_cons_self,rfl⟩
    ·obtain⟨y,hy,rfl⟩:=(h.mem j hj x).1 h1
     exact⟨y,List.mem_cons_of_mem _ hy,rfl⟩
   ·rintro⟨y,hy,rfl⟩
    rcases List.mem_cons.1 hy with rfl | hy
    ·exact .inl rfl
    ·refine .inr ⟨(h.mem j hj _).2 ⟨y,hy,rfl⟩,fun q=>hn y hy ?_⟩
     exact Y1w (OpIn.way (OpIn.of (h.ok j hj y hy)) j) (OpIn.way (OpIn.of ho) j) q
  ·rw[Z0p _ _ e,Z0p _ _ e];exact h.mem j hj x
theorem Tab.congr{S:StoreD}{Ts Ts':Nat→TrD}{L L':Nat→List OpD}(h:Tab S Ts L)(h1:∀i,i<5→Ts' i=Ts i)(h2:∀i,i<5→L' i=L i):Tab S Ts' L':=
 ⟨h.fm,fun i hi=>by rw[h1 i hi];exact h.tr i hi,fun i j hi hj hn=>by rw[h1 i hi,h1 j hj];exact h.disj i j hi hj hn,fun i hi=>by rw[h2 i hi];exact h.ok i hi,fun i hi=>by rw[h2 i hi];exact h.ids i hi,fun i hi=>by rw[h1 i hi,h2 i hi];exact h.mem i hi⟩
def Z4p(Ts:Nat→TrD):Nat→Nat
 | 0=>0
 | k+1=>Z4p Ts k+(Ts k).need
theorem Tab.putR{S S':StoreD}{Ts:Nat→TrD}{L:Nat→List OpD}{i:Nat}{o:OpD}{T':TrD}(h:Tab S Ts L)(hi:i<5)(ho:Z2e o=0)(hn:∀x∈L i,x.id≠o.id)(hp:Y1u S i (wayK i o) (recW i o) S' T' (Ts i)):
  Tab S' (updF Ts i T') (updF L i (o::L i))∧Z0z S≤Z0z S'+(Ts i).need:=by
 obtain⟨F,hl⟩:=Y9k (by omega) hp h.fm (h.tr i hi) (Y2m i o) (Z9e i (OpIn.of ho))
 refine⟨h.put hi ho hn hl,?_⟩
 have:=Y9c hl.big.used hl.big.head hl.nd (fun b hb=>⟨(hl.fresh b hb).1,(hl.fresh b hb).2.2⟩)
 have:=hl.len
 omega
def opId(id:Int):OpD:=⟨id,0,0,0,0,0,0,false,0,0,0⟩
theorem Tab.get{S:StoreD}{Ts:Nat→TrD}{L:Nat→List OpD}(h:Tab S Ts L){id:Int}(hid:In64 id):Y0y (Ts 0).list (wayK 0 (opId id))=(getL (L 0) id).map (fun o=>bts (opL o)):=by
 have hin:∀x∈wayL 0 (opId id),In64 x:=fun x hx=>by
  have:x=id:=by simpa [wayL,opId]using hx
  rw[this];exact hid
 cases hg:getL (L 0) id with
 | none=>
   refine Y5w (fun x hx e=> ?_)
   obtain⟨y,hy,rfl⟩:=(h.mem 0 (by omega) x).1 hx
   have h1:y.id=id:=Y1w (OpIn.way (OpIn.of (h.ok 0 (by omega) y hy)) 0) hin e
   unfold getL at hg
   rw[List.find?_eq_none]at hg
   have:=hg y hy
   simp[h1]at this
 | some o=>
   unfold getL at hg
   have h1:o.id=id:=by have:=List.find?_some hg;simpa using this
   have h2:=List.mem_of_find?_eq_some hg
   refine Y0x (h.tr 0 (by omega)).rise ((h.mem 0 (by omega) _).2 ⟨o,h2,?_⟩)
   have e1:wayK 0 (opId id)=wayK 0 o:=by unfold wayK wayL;rw[h1];rfl
   rw[e1]
   rfl
end Go.Proofs.YtmiolpfanlpfnaaGreat
