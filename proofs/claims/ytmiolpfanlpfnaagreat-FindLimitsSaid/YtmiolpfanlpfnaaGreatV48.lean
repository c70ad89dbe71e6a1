/- The answer to a query: what is true of, in order (plain law); the way by which a condition's operations are found. No program. -/
import Derived.Test.YtmiolpfanlpfnaaGreatV39
import Derived.Test.YtmiolpfanlpfnaaGreatV47
import Derived.Test.YtmiolpfanlpfnaaGreatV38
import Derived.Test.YtmiolpfanlpfnaaGreatV20
import Derived.Test.YtmiolpfanlpfnaaGreatV44
import Derived.Test.YtmiolpfanlpfnaaGreatV46
set_option maxRecDepth 100000
set_option maxHeartbeats 4000000
set_option linter.unusedSimpArgs false
set_option linter.unusedVariables false
namespace Go.Proofs.YtmiolpfanlpfnaaGreat
section
open Go.RowKit
theorem Z8o(ord:ByteArray)(down:Bool)(l0:List OpD)(t:ND)(l:List OpD):(runL ord down l0 t l).Perm (l.filter (fun o=>Z0n l0 o t))∧(runL ord down l0 t l).Pairwise (fun a b=>Z0z ord down b a=false):=by
 have h:∀(l out:List OpD),out.Pairwise (fun a b=>Z0z ord down b a=false)→(l.foldl (Z2q ord down l0 t) out).Perm (l.filter (fun o=>Z0n l0 o t)++out)∧(l.foldl (Z2q ord down l0 t) out).Pairwise (fun a b=>Z0z ord down b a=false):=by
  intro l
  induction l with
  | nil=>intro out h;exact⟨List.Perm.refl _,h⟩
  | cons x r ih=>
    intro out h
    rw[List.foldl_cons,List.filter_cons]
    cases hx:Z0n l0 x t with
    | true=>
      have hs:Z2q ord down l0 t out x=insO ord down x out:=by unfold Z2q;rw[if_pos hx]
      rw[hs,if_pos rfl]
      obtain⟨h1,h2⟩:=ih (insO ord down x out) (Y3i ord down x out h)
      refine⟨h1.trans ?_,h2⟩
      exact((Y3j ord down x out).append_left _).trans List.perm_middle
    | false=>
      have hs:Z2q ord down l0 t out x=out:=by unfold Z2q;rw[if_neg (by rw[hx];decide)]
      rw[hs,if_neg (by decide)]
      exact ih out h
 have:=h l [] List.Pairwise.nil
 rw[List.append_nil]at this
 exact this
theorem X0s(ord:ByteArray)(down:Bool)(l0:List OpD)(t:ND)(l l':List OpD)(hn:l.Pairwise (fun a b=>a.id≠b.id))(hp:l'.Perm (l.filter (fun o=>Z0n l0 o t)))(hs:l'.Pairwise (fun a b=>Z0z ord down b a=false)):l'=runL ord down l0 t l:=by
 obtain⟨h1,h2⟩:=Z8o ord down l0 t l
 refine Z7q _ _ (hp.trans h1.symm) hs h2 (fun a ha b hb h3 h4=> ?_)
 exact Y7j hn (List.mem_filter.1 (hp.subset ha)).1 (List.mem_filter.1 (hp.subset hb)).1 (X2e ord down a b h4 h3)
theorem V0o{l:List OpD}{o:OpD}{t x:ND}(h:Z0n l o t=true)(hx:x∈Z0r t):Z0n l o x=true:=by
 unfold Z0r at hx
 split at hx
 ·rename_i h2
  rw[Z6d l o t h2,List.all_eq_true]at h
  exact h x hx
 ·rw[List.mem_singleton.1 hx];exact h
theorem V1c{l:List OpD}{o:OpD}{x:ND}{f:List UInt8}(hx:hitN f x=true)(h:Z0n l o x=true):Z1f o x.field=some x.value∧x.field.toList=f:=by
 unfold hitN at hx
 simp only[Bool.and_eq_true,beq_iff_eq]at hx
 obtain⟨⟨h1,h2⟩,h3⟩:=hx
 rw[Z8j l o x h1]at h
 unfold cmpF at h
 refine⟨?_,h2⟩
 split at h
 ·rename_i v hv
  rw[h3]at h
  simp[soL]at h
  rw[hv,h]
 ·cases h
theorem Z7p{l:List OpD}{o:OpD}{t:ND}(h:Z0n l o t=true):∀(fs:List (List UInt8)) (ws:List Nat),(∀f w v,(f,w)∈fs.zip ws→∀b:ByteArray,b.toList=f→Z1f o b=some v→ [v] <+: wayL w o)→(Z1d (Z0r t) fs ws).2 <+: wayL (Z1d (Z0r t) fs ws).1 o
 | [],_,_=>by simp[Z1d]
 | _::_,[],_=>by simp[Z1d]
 | f::fs,w::ws,hv=>by
   unfold Z1d
   split
   ·rename_i x hx
    obtain⟨q1,q2⟩:=V1c (List.find?_some hx) (V0o h (List.mem_of_find?_eq_some hx))
    exact hv f w x.value (by simp) _ q2 q1
   ·exact Z7p h fs ws (fun f' w' v' hm=>hv f' w' v' (by rw[List.zip_cons_cons];exact List.mem_cons_of_mem _ hm))
theorem X0z{l:List OpD}{o:OpD}{t:ND}(h:Z0n l o t=true):Z2j (wayK (Z5y t).1 o) (bts (keyL (Z5y t).2))=true:=by
 refine X7x (Z7p h fNames fWays (fun f w v hm b hb hv=> ?_))
 rw[Z9o,hb]at hv
 have hm':(f,w)∈ [(([105,100]:List UInt8),0),([111,98,106,101,99,116],1),([112,114,111,99],3),([109,101,116,104,111,100],4)]:=hm
 simp only[List.mem_cons,Prod.mk.injEq,List.not_mem_nil,or_false]at hm'
 rcases hm' with ⟨rfl,rfl⟩ | ⟨rfl,rfl⟩ | ⟨rfl,rfl⟩ | ⟨rfl,rfl⟩<;>simp at hv<;>subst hv<;>simp[wayL]
theorem Y8n{P:Program}{w:World}{a:Addr}{m:Mode}(f:Fn)(x y:Array Value):(store a (.func f x y) m).run P w=stored P w a (.func f x y) m:=run_store P w a _ m rfl
attribute [local go_sem] Y8n
theorem ItF.keeps_at{tb p bt:Nat}{ts:Nat→Nat}{Fp Fp':Nat→Prop}{w w':World}{ty:TypeId}{cs:List Value}(h1:TblAt w tb p ts Fp)(hr:Row1 w bt ty cs)(h2:TblAt w' tb p ts Fp')(hr':Row1 w' bt ty cs)(hnb:¬Fp' bt)(hk:Keeps (fun i=>Fp i∨T1 tb ts bt i) (fun i=>Fp' i∨T1 tb ts bt i) w w'):Keeps Fp Fp' w w':=by
 refine⟨⟨hk.only.os,hk.only.tape,hk.only.output,hk.only.size,fun i hi hn=> ?_⟩,fun i q=> ?_⟩
 ·by_cases ht:T1 tb ts bt i
  ·rcases ht with rfl | ⟨j,hj,rfl⟩ | rfl
   ·exact h2.row.trans h1.row.symm
   ·exact(h2.tree j hj).trans (h1.tree j hj).symm
   ·exact hr'.trans hr.symm
  ·exact hk.only.block i hi (fun r=>r.elim hn ht)
 ·rcases hk.new i (.inl q)with (r | r | ⟨j,hj,r⟩ | r) | r
  ·exact .inl r
  ·exact absurd (r▸q) h2.out
  ·exact absurd (r▸q) (h2.outs j hj)
  ·exact absurd (r▸q) hnb
  ·exact .inr r
theorem Y0z(ks:List ND):∀(fs:List (List UInt8)) (ws:List Nat),∀v∈(Z1d ks fs ws).2,∃y∈ks,y.value=v
 | [],_,v,h=>by simp[Z1d]at h
 | _::_,[],v,h=>by simp[Z1d]at h
 | f::fs,w::ws,v,h=>by
   unfold Z1d at h
   split at h
   ·rename_i x hx
    exact⟨x,List.mem_of_find?_eq_some hx,by have e:v=x.value:=(by simpa using h);exact e.symm⟩
   ·exact Y0z ks fs ws v h
theorem V8x{w:World}{d:Nat}{t:ND}{n:NCell}(hd:Nd w d t n)(hn:RN n n.cells):∀v∈(Z5y t).2,In64 v:=fun v hv=>by
 obtain⟨y,hy,rfl⟩:=Y0z _ _ _ v hv
 cases d with
 | zero=>exact hd.elim
 | succ d=>
   obtain⟨h1,_,_,h4,ks,h5,h6,h7⟩:=hd
   unfold Z0r at hy
   split at hy
   ·obtain⟨i,hi,rfl⟩:=List.mem_iff_getElem.1 hy
    have h8:=h7 i _ ks[i] (List.getElem?_eq_getElem hi) (List.getElem?_eq_getElem (by omega))
    cases d with
    | zero=>exact h8.elim
    | succ d=>
      obtain⟨cs,hc⟩:=h5.all ks[i] (List.getElem_mem (by omega))
      rw[←h8.2.2.2.1]
      exact⟨hc.2.1,hc.2.2.1⟩
   ·rw[List.mem_singleton.1 hy,←h4]
    exact⟨hn.2.1,hn.2.2.1⟩
structure RunR (tb p:Nat) (ts:Nat→Nat) (S:StoreD) (Fp:Nat→Prop) (count:Bool) (out:List OpD) (w:World) (v:Value) (w':World):Prop where
 val:if count then v= .slice none 0 0 else Sl w' 11 ROp v out
 own:∀b,v.ownBlock=some b→w.heap.size≤b
 ex:∃F',TblAt w' tb p ts F'∧PagerAt w' p F' S∧(∀i,F' i→i<w'.heap.size)∧Keeps Fp F' w w'∧∀b,v.ownBlock=some b→¬F' b
theorem V0g{α:Type}:∀(l r:List α),l.Nodup→(∀x∈l,x∈r)→l.length≤r.length
 | [],_,_,_=>Nat.zero_le _
 | a::l,r,hn,hs=>by
   haveI:DecidableEq α:=fun a b=>Classical.propDecidable _
   have h1:=List.nodup_cons.1 hn
   have ha:=hs a List.mem_cons_self
   have h2:=V0g l (r.erase a) h1.2 (fun x hx=>(List.mem_erase_of_ne (fun e=>h1.1 (by rw[←e];exact hx))).2 (hs x (List.mem_cons_of_mem _ hx)))
   rw[List.length_erase_of_mem ha]at h2
   have:=List.length_pos_of_mem ha
   rw[List.length_cons]
   omega
theorem Z7y{tb p:Nat}{ts:Nat→Nat}{S:StoreD}{Ts:Nat→TrD}{ls:List OpD}{Fp B:Nat→Prop}(d:Nat)(t:ND)(nk:Int)(nA:Option Addr)(nm nc:Nat)(nf ns:ByteArray)(nv:Int)(ord:ByteArray)(down:Bool)(limit:Int)(count:Bool)(w:World)
 (hT:Tab S Ts (fun _=>ls))(hd:∀i,i<5→depT (Ts i)≤31)(hlen:ls.length≤100000)(ht:TblAt w tb p ts Fp)(hp:PagerAt w p Fp S)(hlow:∀i,Fp i→i<w.heap.size)
 (hn:RN ⟨nk,.slice nA nm nc,nf,ns,nv⟩ (NCell.cells ⟨nk,.slice nA nm nc,nf,ns,nv⟩))(hnd:NdB B w d t ⟨nk,.slice nA nm nc,nf,ns,nv⟩)(hB:BF B Fp w)(hBT:∀i,B i→i≠tb∧∀j,j<5→i≠ts j)(hlim:In64 limit):
  Calls Tryz.prog 38 #[tp tb,.agg #[.int .i64 nk,.slice nA nm nc,.string nf,.string ns,.int .i64 nv,.string ord,.bool down,.int .i64 limit,.bool count]] w fun e w'=>
   ∃v,e= .returned (.tuple #[v,.int .i64 (cutL limit (runL ord down ls t ls)).length])∧RunR tb p ts S Fp count (cutL limit (runL ord down ls t ls)) w v w':=by
 obtain⟨all,k,hf⟩:=hT.finds (way:=(Z5y t).1) (Z6h t).1 (bts (keyL (Z5y t).2))
 have hal:all.length≤100000:=Nat.le_trans (V0g all ls (hf.nodup hT (Z6h t).1) hf.mem) hlen
 have hperm:∀l',l'.Perm ((all.take k).filter (fun o=>Z0n ls o t))→l'.Pairwise (fun a b=>Z0z ord down b a=false)→l'=runL ord down ls t ls:=fun l' q1 q2=>
  X0s ord down ls t ls l' (hT.ids 0 (by omega)) (q1.trans (hf.some hT (Z6h t).1 _ (fun o _ h=>X0z h))) q2
 have hflen:(Z5y t).2.length≤4:=by have:=(Z6h t).2;omega
 have hway:=(Z6h t).1
 obtain⟨way,hwy⟩:∃way,(Z5y t).1=way:=⟨_,rfl⟩
 obtain⟨fl,hfl⟩:∃fl,(Z5y t).2=fl:=⟨_,rfl⟩
 have hin:∀x∈fl,In64 x:=fun x hx=>V8x (hnd.nd) hn x (hfl▸hx)
 have cP:Hid (∀W,Ext w W→Calls Tryz.prog 42 #[.agg #[.int .i64 nk,.slice nA nm nc,.string nf,.string ns,.int .i64 nv]] W fun e w'=>(∃v,e= .returned (.tuple #[.int .i64 (way:Nat),v])∧OwnL w' W.heap.size 3 1 encN v fl)∧Ext W w'):=fun W hW=>by
  have h1:=Y9w d t nk nA nm nc nf ns nv W hn ((hnd.nd).ext hW)
  rw[hwy,hfl]at h1
  exact h1
 rw[hwy,hfl]at hf
 rw[hfl]at hflen
 rw[hwy]at hway
 obtain⟨W9,hW9⟩:∃W9,((w.alloc (.cells #[tp tb] 26)).alloc (.cells #[.int .i64 nk,.slice nA nm nc,.string nf,.string ns,.int .i64 nv,.string ord,.bool down,.int .i64 limit,.bool count] 69)).alloc (.cells #[.nilFunc] 143)=W9:=⟨_,rfl⟩
 have HX9:Hid (Ext w W9):=by unfold Hid;rw[←hW9];exact((Ext.alloc _ _).trans (Ext.alloc _ _)).trans (Ext.alloc _ _)
 have hA9:Row1 W9 w.heap.size 26 [tp tb]:=by rw[←hW9];exact((Row1.made w _ [tp tb]).alloc _).alloc _
 have hQ9:Row1 W9 (w.heap.size+1) 69 [.int .i64 nk,.slice nA nm nc,.string nf,.string ns,.int .i64 nv,.string ord,.bool down,.int .i64 limit,.bool count]:=by rw[←hW9];exact(Row1.made' (by simp) _ [.int .i64 nk,.slice nA nm nc,.string nf,.string ns,.int .i64 nv,.string ord,.bool down,.int .i64 limit,.bool count]).alloc _
 have hK9:Row1 W9 (w.heap.size+1+1) 143 [.nilFunc]:=by rw[←hW9];exact Row1.made' (by simp) _ [.nilFunc]
 have hs9:W9.heap.size=w.heap.size+3:=by rw[←hW9];simp
 have z0:W9.cell? ⟨w.heap.size+1+1,0,none⟩=some .nilFunc:=hK9.cell 0
 have z1:W9.frozen? ⟨w.heap.size+1+1,0,none⟩=false:=hK9.soft 0
 obtain⟨W0,hW0⟩:∃W0,W9.setCell ⟨w.heap.size+1+1,0,none⟩ (.func (.func 87) #[] #[.pointer (some ⟨w.heap.size,0,none⟩)])=W0:=⟨_,rfl⟩
 have hoS:Only (fun i=>i=w.heap.size+1+1) W9 W0:=hW0▸Only.setCell (F:=fun i=>i=w.heap.size+1+1) (p:=⟨w.heap.size+1+1,0,none⟩) Only.refl (.inl rfl) _
 have HX0:Hid (Ext w W0):=((Only.of (F:=fun i=>i=w.heap.size+1+1) HX9.out).trans' hoS).toExt (fun i q=>by omega)
 have HA0:Hid (Row1 W0 w.heap.size 26 [tp tb]):=hoS.row hA9 (by omega)
 have HQ0:Hid (Row1 W0 (w.heap.size+1) 69 [.int .i64 nk,.slice nA nm nc,.string nf,.string ns,.int .i64 nv,.string ord,.bool down,.int .i64 limit,.bool count]):=hoS.row hQ9 (by omega)
 have HK0:Hid (Row1 W0 (w.heap.size+1+1) 143 [.func (.func 87) #[] #[.pointer (some ⟨w.heap.size,0,none⟩)]]):=hW0▸hK9.set 0 _
 have hs0:W0.heap.size=w.heap.size+3:=by rw[←hW0,Z1n];exact hs9
 clear hA9 hQ9 hK9 hs9 hoS HX9
 have hmf:∀(fn:Fn) (first cap:Array Value) (w:World),(Instr.makeFunc fn first cap).run Tryz.prog w= .ok (.func fn first cap) w:=fun _ _ _ _=>rfl
 have HRN:=hD hn
 have cC:Hid (∀(bt bw bf:Nat) (A:Option Addr) (n c:Nat) (W:World),Ext W0 W→W0.heap.size≤bt→W0.heap.size≤bw→W0.heap.size≤bf→Row1 W bt 26 [tp tb]→Row1 W bw 3 [.int .i64 (way:Nat)]→Row1 W bf 23 [.slice A n c]→Sl W 1 (fun x cs=>cs=encN x) (.slice A n c) fl→
   Calls Tryz.prog 89 #[.func (.func 129) #[] #[.pointer (some ⟨bf,0,none⟩),.pointer (some ⟨bt,0,none⟩),.pointer (some ⟨bw,0,none⟩)],.func (.func 90) #[] #[.pointer (some ⟨w.heap.size+1+1,0,none⟩),.pointer (some ⟨w.heap.size+1,0,none⟩)]] W fun e w'=>
    ∃v,e= .returned v∧OwnL w' W.heap.size 32 11 OpD.cells v ((all.take k).filter (fun o=>Z0n ls o t))∧∃F',TblAt w' tb p ts F'∧PagerAt w' p F' S∧(∀i,F' i→i<w'.heap.size)∧Keeps Fp F' W w'∧(∀i,w.heap.size≤i→i<W0.heap.size→w'.heap[i]? =W.heap[i]?)∧∀b,v.ownBlock=some b→¬F' b):=fun bt bw bf A n c W hW hb1 hb2 hb3 hr1 hr2 hr3 hsl=>by
  have hx:Ext w W:=HX0.out.trans hW
  have hzW:=hW.size
  have hbl:=hr1.lt
  have htW:=ht.ext hx
  have hFlow:∀i,(Fp i∨T1 tb ts bt i)→i<W.heap.size:=fun i q=>by
   rcases q with q | rfl | ⟨j,hj,rfl⟩ | rfl
   ·have:=hlow i q;have:=hx.size;omega
   ·exact htW.row.lt
   ·exact(htW.tree j hj).lt
   ·exact hbl
  have hnbt:¬Fp bt:=fun q=>by have:=hlow _ q;omega
  have htl:=ht.row.lt
  have htsl:=fun j hj=>(ht.tree j hj).lt
  have hBF:BF (fun i=>B i∨i=w.heap.size∨i=w.heap.size+1+1∨i=w.heap.size+1) (fun i=>Fp i∨T1 tb ts bt i) W:=fun i q=>by
   rcases q with q | q
   ·refine⟨by have:=(hB i q).1;have:=hx.size;omega,fun r=> ?_⟩
    rcases r with r | rfl | ⟨j,hj,rfl⟩ | rfl
    ·exact(hB i q).2 r
    ·exact(hBT _ q).1 rfl
    ·exact(hBT _ q).2 j hj rfl
    ·have:=(hB _ q).1;omega
   ·refine⟨by omega,fun r=> ?_⟩
    rcases r with r | rfl | ⟨j,hj,rfl⟩ | rfl
    ·have:=hlow i r;omega
    ·omega
    ·have:=htsl j hj;omega
    ·omega
  refine(X6y (It:=ItF tb p ts bt S) (all:=all) (k:=k) (pr:=fun o=>Z0n ls o t) (B:=fun i=>B i∨i=w.heap.size∨i=w.heap.size+1+1∨i=w.heap.size+1) (F:=fun i=>Fp i∨T1 tb ts bt i) W
   (fun m w' hx'=>X1y way fl w' hT hd hway (hr2.ext hx' hr2.lt) (hr3.ext hx' hr3.lt) (hsl.ext hx') hin hflen hf hal)
   (ItF.abides htW.row.lt (fun j hj=>(htW.tree j hj).lt) hbl) ⟨Fp,rfl,htW,hp.ext hx,hr1,hnbt⟩ hFlow hBF
   (Y8o (ord:=ord) (down:=down) (limit:=limit) (count:=count) (n:=⟨nk,.slice nA nm nc,nf,ns,nv⟩) W hT (hd 0 (by omega)) HRN.out ((hnd.ext hx).mono (fun i q=> .inl q)) (.inr (.inl rfl)) (.inr (.inr (.inl rfl))) (.inr (.inr (.inr rfl))) (HA0.out.ext hW HA0.out.lt) (HK0.out.ext hW HK0.out.lt) (HQ0.out.ext hW HQ0.out.lt)) hal).mono ?_
  rintro e w' ⟨v,rfl,ho,F',⟨Fp',rfl,q1,q2,q3,q4⟩,q5,q6,q7⟩
  refine⟨v,rfl,ho,Fp',q1,q2,fun i q=>q5 i (.inl q),ItF.keeps_at htW hr1 q1 q3 q4 q6,fun i z1 z2=>q6.only.block i (by omega) (fun r=> ?_),fun b q r=>q7 b q (.inl r)⟩
  rcases r with r | rfl | ⟨j,hj,rfl⟩ | rfl
  ·have:=hlow i r;omega
  ·omega
  ·have:=htsl j hj;omega
  ·omega
 have cF:Hid (∀(A:Option Addr) (n c:Nat) W,Calls Tryz.prog 65 #[tp tb,.int .i64 (way:Nat),.slice A n c] W (U0k (A:=A) (n:=n) (c:=c) (some ⟨tb,0,none⟩) (way:Nat) W)):=fun A n c W=>V6r _ _ W
 have HPERM:=hD hperm
 have HLIM:Hid (-9223372036854775808≤limit∧limit≤9223372036854775807):=hlim
 have HAL:Hid (((all.take k).filter (fun o=>Z0n ls o t)).length≤1000000000):=by
  have h1:=List.length_filter_le (fun o=>Z0n ls o t) (all.take k)
  have h2:(all.take k).length≤all.length:=by rw[List.length_take];omega
  unfold Hid;omega
 clear hperm hf hal hlow hB hBT ht hp hnd hT hd hn hin
 have hlt0:w.heap.size+3≤W0.heap.size:=by omega
 have HS:Hid (∀W:World,Ext W0 W→(W.cell? ⟨w.heap.size,0,none⟩=some (tp tb)∧W.cell? ⟨w.heap.size+1,0,none⟩=some (.int .i64 nk)∧W.cell? ⟨w.heap.size+1,1,none⟩=some (.slice nA nm nc)∧W.cell? ⟨w.heap.size+1,2,none⟩=some (.string nf)∧W.cell? ⟨w.heap.size+1,3,none⟩=some (.string ns)∧W.cell? ⟨w.heap.size+1,4,none⟩=some (.int .i64 nv)∧W.cell? ⟨w.heap.size+1,5,none⟩=some (.string ord)∧W.cell? ⟨w.heap.size+1,6,none⟩=some (.bool down)∧W.cell? ⟨w.heap.size+1,7,none⟩=some (.int .i64 limit)∧W.cell? ⟨w.heap.size+1,8,none⟩=some (.bool count))):=fun W hW=>by
  have r0:=HA0.out.ext hW HA0.out.lt
  have r1:=HQ0.out.ext hW HQ0.out.lt
  exact⟨r0.cell 0,r1.cell 0,r1.cell 1,r1.cell 2,r1.cell 3,r1.cell 4,r1.cell 5,r1.cell 6,r1.cell 7,r1.cell 8⟩
 have HSK:Hid (∀W' W:World,(∀i,w.heap.size≤i→i<W0.heap.size→W.heap[i]? =W'.heap[i]?)→Ext W0 W'→(W.cell? ⟨w.heap.size,0,none⟩=some (tp tb)∧W.cell? ⟨w.heap.size+1,0,none⟩=some (.int .i64 nk)∧W.cell? ⟨w.heap.size+1,1,none⟩=some (.slice nA nm nc)∧W.cell? ⟨w.heap.size+1,2,none⟩=some (.string nf)∧W.cell? ⟨w.heap.size+1,3,none⟩=some (.string ns)∧W.cell? ⟨w.heap.size+1,4,none⟩=some (.int .i64 nv)∧W.cell? ⟨w.heap.size+1,5,none⟩=some (.string ord)∧W.cell? ⟨w.heap.size+1,6,none⟩=some (.bool down)∧W.cell? ⟨w.heap.size+1,7,none⟩=some (.int .i64 limit)∧W.cell? ⟨w.heap.size+1,8,none⟩=some (.bool count))):=fun W' W h hW=>by
  have r0:Row1 W w.heap.size 26 [tp tb]:=(HA0.out.ext hW HA0.out.lt).same (h _ (by omega) (by omega))
  have r1:Row1 W (w.heap.size+1) 69 [.int .i64 nk,.slice nA nm nc,.string nf,.string ns,.int .i64 nv,.string ord,.bool down,.int .i64 limit,.bool count]:=(HQ0.out.ext hW HQ0.out.lt).same (h _ (by omega) (by omega))
  exact⟨r0.cell 0,r1.cell 0,r1.cell 1,r1.cell 2,r1.cell 3,r1.cell 4,r1.cell 5,r1.cell 6,r1.cell 7,r1.cell 8⟩
 clear hlt0
 obtain⟨a0,b0,b1,b2,b3,b4,b5,b6,b7,b8⟩:=HS.out W0 (Ext.refl _)
 go_enter Tryz.func38,Tryz.ntmps38
 go_upto_region 2 with fail
 clear hW0 hW9 z0 z1
 go_upto_region 3 with (go_at_call 42;(with_reducible refine(cP.out _ HX0.out).mono ?_);clear cP;rintro e w1 ⟨⟨v,rfl,hv⟩,hx1⟩;obtain⟨vA,vc,rfl⟩:=hv.form;have HV:Hid (Sl w1 1 (fun x cs=>cs=encN x) (.slice vA fl.length vc) fl):=hv.sl (R:=fun x cs=>cs=encN x) (fun _=>rfl) (fun _=>rfl);have HX1:=hD hx1;clear hv hx1)
 obtain⟨fn,hfn⟩:∃fn,fl.length=fn:=⟨_,rfl⟩
 rw[hfn]at HV
 simp only[hfn]
 clear hfn a0 b0 b1 b2 b3 b4 b5 b6 b7 b8
 refine wp_region_held_drew (S:=fun W=>(W.cell? ⟨w.heap.size,0,none⟩=some (tp tb)∧W.cell? ⟨w.heap.size+1,0,none⟩=some (.int .i64 nk)∧W.cell? ⟨w.heap.size+1,1,none⟩=some (.slice nA nm nc)∧W.cell? ⟨w.heap.size+1,2,none⟩=some (.string nf)∧W.cell? ⟨w.heap.size+1,3,none⟩=some (.string ns)∧W.cell? ⟨w.heap.size+1,4,none⟩=some (.int .i64 nv)∧W.cell? ⟨w.heap.size+1,5,none⟩=some (.string ord)∧W.cell? ⟨w.heap.size+1,6,none⟩=some (.bool down)∧W.cell? ⟨w.heap.size+1,7,none⟩=some (.int .i64 limit)∧W.cell? ⟨w.heap.size+1,8,none⟩=some (.bool count))) (by kernel_rfl) (HS.out _ (HX1.out.trans (by exact Xt))) (fun hHeld=> ?_)
 refine' tk 0 ?_
 refine' tk 1 ?_
 refine' tk 2 ?_
 refine' tk 4 ?_
 refine' tk 6 ?_
 refine stp 3 (fun K hK=> ?_);go_simp
 (with_reducible refine(cF.out _ _ _ _).mono ?_)
 rintro e w2 ⟨bt,bw,bf,rfl,hx2,hb1,hb2,hb3,hr1,hr2,hr3⟩
 have HX2:Hid (Ext w1 w2):=Ext.trans (by exact Xt) hx2
 have HX3:Hid (Ext W0 w2):=HX1.out.trans HX2.out
 have hz1:W0.heap.size≤w1.heap.size:=HX1.out.size
 have cC1:=cC.out bt bw bf _ _ _ w2 HX3.out (Nat.le_trans hz1 hb1) (Nat.le_trans hz1 hb2) (Nat.le_trans hz1 hb3) hr1 hr2 hr3 (HV.out.ext HX2.out)
 clear hx2 hb1 hb2 hb3 hr1 hr2 hr3
 (try dsimp only)
 (try go_simp)
 refine hK.out _ _ (HS.out _ HX3.out) (fun hHeld=> ?_)
 clear hK K
 refine pt ?_
 refine stp 5 (fun K hK=> ?_);go_simp
 (with_reducible refine cC1.mono ?_)
 rintro e w3 ⟨v3,rfl,ho3,F3,ht3,hp3,hl3,hk3,hsm3,hv3⟩
 have HSL3:=hD (ho3.sl (R:=ROp) Z2t (fun _=>rfl))
 have HSM:=hD hsm3
 have HFI:Hid (TblAt w3 tb p ts F3∧PagerAt w3 p F3 S∧(∀i,F3 i→i<w3.heap.size)∧Keeps Fp F3 w w3):=⟨ht3,hp3,hl3,(Keeps.of (HX0.out.trans HX3.out)).trans hk3⟩
 have HZ3:Hid (w2.heap.size≤w3.heap.size):=hk3.only.size
 clear cC1 ho3 ht3 hp3 hl3 hk3 hsm3 hv3
 (try dsimp only)
 (try go_simp)
 refine hK.out _ _ (HSK.out w2 w3 HSM.out HX3.out) (fun hHeld=> ?_)
 clear hK K
 refine pt ?_
 refine stp 7 (fun K hK=> ?_);go_simp
 (with_reducible refine(Y4i _ _ nk nA nm nc nf ns nv ord down limit count w3 HSL3.out HAL.out HLIM.out).mono ?_)
 rintro e w4 ⟨⟨l',v4,rfl,hsl4,hpe,hpw,hob⟩,hx4⟩
 have HX4:=hD hx4
 have HP4:Hid (l'=runL ord down ls t ls):=HPERM.out l' hpe hpw
 have HSL4:=hD hsl4
 have HOB:=hD hob
 clear hx4 hpe hpw hsl4 hob
 (try dsimp only)
 (try go_simp)
 refine hK.out _ _ (HSK.out w2 w4 (fun i q1 q2=>(HX4.out.block i (by have:=HX3.out.size;have:=HZ3.out;omega)).trans (HSM.out i q1 q2)) HX3.out) (fun hHeld=> ?_)
 clear hK K
 refine pt ?_
 refine' tk 8 ?_
 refine wpAnyH_done (by kernel_rfl) ?_ _
 obtain⟨s0,s1,s2,s3,s4,s5,s6,s7,s8,s9⟩:=HSK.out w2 w4 (fun i q1 q2=>(HX4.out.block i (by have:=HX3.out.size;have:=HZ3.out;omega)).trans (HSM.out i q1 q2)) HX3.out
 obtain⟨v4A,v4c,hv4⟩:=HSL4.out.form
 rw[HP4.out]at HSL4 hv4
 subst hv4
 have HEX:Hid (∃F',TblAt w4 tb p ts F'∧PagerAt w4 p F' S∧(∀i,F' i→i<w4.heap.size)∧Keeps Fp F' w w4∧∀b,(Value.slice v4A (cutL limit (runL ord down ls t ls)).length v4c).ownBlock=some b→¬F' b):=
  ⟨F3,HFI.out.1.ext HX4.out,HFI.out.2.1.ext HX4.out,fun i q=>Nat.lt_of_lt_of_le (HFI.out.2.2.1 i q) HX4.out.size,HFI.out.2.2.2.ext HX4.out,fun b q r=>by have:=HOB.out b q;have:=HFI.out.2.2.1 b r;omega⟩
 have HOW:Hid (∀b,(Value.slice v4A (cutL limit (runL ord down ls t ls)).length v4c).ownBlock=some b→w.heap.size≤b):=fun b q=>by have:=HOB.out b q;have:=HX0.out.size;have:=HX3.out.size;have:=HZ3.out;omega
 cases count with
 | true=>
   go_wp2_with fail
   go_ret2
   refine⟨_,rfl,rfl,fun b q=>(by cases q),?_⟩
   obtain⟨F',q1,q2,q3,q4,_⟩:=HEX.out
   exact⟨F',q1,q2,q3,q4,fun b q=>(by cases q)⟩
 | false=>
   go_wp2_with fail
   go_ret2
   exact⟨_,rfl,HSL4.out,HOW.out,HEX.out⟩
end
section
open Go.RowKit
def AwOk:Prop:=∀W:World,Calls Tryz.prog 37 #[] W fun e w'=>e= .returned (.bool true)∧Ext W w'
def awM(k:Nat):OpD:=⟨(k:Int)+1,0,0,3,6,5,0,false,0,(k:Int)+1,0⟩
def awN:List OpD:= [⟨1,0,0,3,6,5,0,false,0,1,0⟩,⟨2,0,0,3,6,4,0,false,0,2,0⟩,⟨3,0,0,3,6,5,0,false,0,3,0⟩]
def awT:ND:= .mk 4 [] ⟨#[97,114,103]⟩ ⟨#[61]⟩ 5
def awC:NCell:=⟨4,.slice none 0 0,⟨#[97,114,103]⟩,⟨#[61]⟩,5⟩
theorem V2z(w:World):NdB (fun _=>False) w 1 awT awC:=⟨rfl,rfl,rfl,rfl,[],Sl.nil _ _ _,fun b h=>absurd h (by simp),rfl,fun i x y h=>by simp[awT,ND.kids]at h⟩
theorem V8e:RN awC awC.cells:=⟨rfl,by decide,by decide,none,0,0,rfl⟩
theorem U0w:filL (awN.take 24)=awN:=by decide +kernel
theorem U0v:cutL 1 (runL ⟨#[97,114,103]⟩ true awN awT awN)= [⟨1,0,0,3,6,5,0,false,0,1,0⟩]:=by decide +kernel
theorem U0u:(cutL (-1) (runL ⟨#[]⟩ false awN awT awN)).length=2:=by decide +kernel
def awL(k:Nat):List OpD:=(List.range k).map awM
theorem V7s(k:Nat):awL (k+1)=awL k++ [awM k]:=by unfold awL;rw[List.range_succ,List.map_append];rfl
theorem Y0t(k:Nat):(awL k).length=k:=by unfold awL;simp
theorem Y4a(w:World):Calls Tryz.prog 37 #[] w fun e w'=>e= .returned (.bool true)∧Ext w w':=by
 go_enter Tryz.func37,Tryz.ntmps37
 go_wp2_with fail
 go_loopw [2,1] (fun i v wr=>∃k:Nat,k≤3∧i= .int .i64 ((k:Int)+1)∧Ext w wr∧OwnL wr w.heap.size 32 11 OpD.cells v (awL k)) (fun i _ _=>4-(intOf i).toNat)
 case atStart=>exact⟨0,by omega,rfl,Ext.refl _,OwnL.nil _ _ _ _ _⟩
 case round=>
  obtain⟨k,hk,rfl,hb,hown⟩:=hrel
  have HB:=hD hb
  obtain⟨vA,vc,rfl⟩:=hown.form
  rw[Y0t]at hown
  simp only[Y0t]
  have HOW:=hD hown
  clear hb hown
  by_cases hlt:k<3
  ·have q1:decide ((k:Int)+1≤3)=true:=decide_eq_true (by omega)
   have HO2:Hid (OwnL (wr.alloc (.cells #[.int .i64 ((k:Int)+1),.int .i64 0,.int .i64 0,.int .i64 3,.int .i64 6,.int .i64 5,.int .i64 0,.bool false,.int .i64 0,.int .i64 ((k:Int)+1),.int .i64 0] 32)) w.heap.size 32 11 OpD.cells (.slice vA k vc) (awL k)):=HOW.out.alloc _
   have HL1:Hid ((awL k).length+1≤1000000000):=by unfold Hid;rw[Y0t];omega
   have HL2:Hid ((awL k++ [awM k]).length=k+1):=by unfold Hid;rw[List.length_append,Y0t];rfl
   have HZ:Hid (w.heap.size≤(wr.alloc (.cells #[.int .i64 ((k:Int)+1),.int .i64 0,.int .i64 0,.int .i64 3,.int .i64 6,.int .i64 5,.int .i64 0,.bool false,.int .i64 0,.int .i64 ((k:Int)+1),.int .i64 0] 32)).heap.size):=by have:=HB.out.size;unfold Hid;rw[World.size_alloc];omega
   go_wp2_with (at_builtin;go_loud (refine Z0v elOp Z2t Z7r rfl (.tmp 14) (.tmp 18) rfl (.slice vA k vc) (awL k) rfl HO2.out HZ.out wr.heap.size 1 (awM k) rfl (Row1.made wr _ (awM k).cells) HL1.out (by decide) ?_;intro A4 c4 w4 hown4 hgr4 hwh4;rw[HL2.out]at hown4 hwh4 ⊢;have HO4:=hD hown4;have HG4:=hD hgr4;clear hown4 hgr4 hwh4))
   go_roundw
   case rel=>
    refine⟨k+1,by omega,by go_num,?_,by rw[V7s];exact HO4.out⟩
    exact OwnL.grown HO2.out (HB.out.trans (Ext.alloc _ _)) HG4.out (Nat.le_refl _)
   case measure=>simp only[intOf];omega
  ·obtain rfl:k=3:=by omega
   have q1:decide (((3:Nat):Int)+1≤3)=false:=by decide
   obtain⟨g,cap,spare,hv,hbg,hrow,hc1,hc2,hc3,_⟩:=HOW.out.row (by rw[Y0t];omega)
   rw[Y0t]at hv hc1
   injection hv with hv1 _ hv2
   subst hv1 hv2
   have HROW:=hD hrow
   have c16:wr.cell? ⟨g,16,none⟩=some (.int .i64 5):=hrow.cell 16
   have f16:wr.frozen? ⟨g,16,none⟩=false:=hrow.soft 16
   have HBG:=hD hbg
   have HC:=hD (And.intro hc1 (And.intro hc2 hc3))
   have HX2:Hid (Ext w (wr.setCell ⟨g,16,none⟩ (.int .i64 4))):=((Only.of (F:=fun i=>i=g) HB.out).trans' (Only.setCell (F:=fun i=>i=g) (p:=⟨g,16,none⟩) Only.refl (.inl rfl) _)).toExt (fun i q=>by rw[q];exact hbg)
   have HR2:Hid (Row1 (wr.setCell ⟨g,16,none⟩ (.int .i64 4)) g 32 (awN.flatMap OpD.cells++spare)):=by
    have h1:=HROW.out.set 16 (.int .i64 4)
    rwa [List.set_append_left _ _ (by decide)]at h1
   clear hrow hbg hc1 hc2 hc3
   go_upto_region 7 with fail
   generalize hW2:World.setCell _ _ _=W2 at *
   have hsl:Sl W2 11 ROp (.slice (some ⟨g,0,none⟩) 3 vc) awN:=(OwnL.ofRow (l:=awN) (k:=11) (base:=0) HR2.out (Nat.zero_le _) HC.out.1 HC.out.2.1 (by rw[List.length_append,show(awN.flatMap OpD.cells).length=((awL 3).flatMap OpD.cells).length from rfl,←List.length_append];exact HC.out.2.2) (fun _=>rfl)).sl Z2t (fun _=>rfl)
   have cFil:=Z6t _ awN W2 hsl (fun o ho=>by simp[awN]at ho;rcases ho with rfl | rfl | rfl<;>exact⟨by decide,by decide⟩)
   clear hW2 hsl c16 f16
   go_upto_region 9 with (go_at_call 35;(with_reducible refine cFil.mono ?_);clear cFil;rintro e w1 ⟨tb,p,ts,v,F,rfl,hf⟩;rw[U0w]at hf;obtain⟨v1A,v1c,rfl⟩:=hf.own.form;have HF:=hD hf;clear hf)
   generalize hw2:World.alloc _ _=w2
   have HX3:Hid (Ext w1 w2):=by unfold Hid;rw[←hw2];exact Ext.alloc _ _
   have HN2:Hid (Row1 w2 w1.heap.size 50 awC.cells):=by unfold Hid;rw[←hw2];exact Row1.made w1 _ awC.cells
   have HF2:=hD (HF.out.to HX3.out)
   have HXW:Hid (Ext w w2):=HX2.out.trans HF2.out.ext
   obtain⟨S,Ts,hI,hP⟩:=HF2.out.ex
   have HI:=hD hI
   have cR:=Z7y (B:=fun _=>False) 1 awT 4 none 0 0 ⟨#[97,114,103]⟩ ⟨#[61]⟩ 5 ⟨#[97,114,103]⟩ true 1 false w2 hI.tab (fun i hi=>hI.dep (by omega) i hi) (by decide) HF2.out.at_ hP (fun i q=>(HF2.out.new i q).2) V8e (V2z w2) (fun i q=>q.elim) (fun i q=>q.elim) (by exact⟨by decide,by decide⟩)
   rw[U0v]at cR
   obtain⟨z0,z1,z2,z3,z4⟩:w2.cell? ⟨w1.heap.size,0,none⟩=some (.int .i64 4)∧w2.cell? ⟨w1.heap.size,1,none⟩=some (.slice none 0 0)∧w2.cell? ⟨w1.heap.size,2,none⟩=some (.string ⟨#[97,114,103]⟩)∧w2.cell? ⟨w1.heap.size,3,none⟩=some (.string ⟨#[61]⟩)∧w2.cell? ⟨w1.heap.size,4,none⟩=some (.int .i64 5):=⟨HN2.out.cell 0,HN2.out.cell 1,HN2.out.cell 2,HN2.out.cell 3,HN2.out.cell 4⟩
   clear hI hP hw2
   go_upto_region 10 with (go_at_call 38;(with_reducible refine cR.mono ?_);clear cR;rintro e w3 ⟨v3,rfl,hr3⟩;have HR3:=hD hr3;clear hr3)
   obtain⟨F3,ht3,hp3,hl3,hk3,ho3⟩:=HR3.out.ex
   have HK3:=hD hk3
   have HV3:Hid (Sl w3 11 ROp v3 [⟨1,0,0,3,6,5,0,false,0,1,0⟩]):=HR3.out.val
   have cR:=Z7y (B:=fun _=>False) 1 awT 4 none 0 0 ⟨#[97,114,103]⟩ ⟨#[61]⟩ 5 ⟨#[]⟩ false (-1) true w3 HI.out.tab (fun i hi=>HI.out.dep (by omega) i hi) (by decide) ht3 hp3 hl3 V8e (V2z w3) (fun i q=>q.elim) (fun i q=>q.elim) (by exact⟨by decide,by decide⟩)
   rw[U0u]at cR
   have HN3:Hid (Row1 w3 w1.heap.size 50 awC.cells):=hk3.only.row HN2.out (fun q=>by have:=(HF.out.new _ q).2;omega)
   clear z0 z1 z2 z3 z4
   obtain⟨z0,z1,z2,z3,z4⟩:w3.cell? ⟨w1.heap.size,0,none⟩=some (.int .i64 4)∧w3.cell? ⟨w1.heap.size,1,none⟩=some (.slice none 0 0)∧w3.cell? ⟨w1.heap.size,2,none⟩=some (.string ⟨#[97,114,103]⟩)∧w3.cell? ⟨w1.heap.size,3,none⟩=some (.string ⟨#[61]⟩)∧w3.cell? ⟨w1.heap.size,4,none⟩=some (.int .i64 5):=⟨HN3.out.cell 0,HN3.out.cell 1,HN3.out.cell 2,HN3.out.cell 3,HN3.out.cell 4⟩
   have HO3:=hD ho3
   clear ht3 hp3 hl3 hk3 ho3
   obtain⟨v3A,v3c,rfl⟩:=HV3.out.form
   go_upto_region 11 with (go_at_call 38;(with_reducible refine cR.mono ?_);clear cR;rintro e w4 ⟨v4,rfl,hr4⟩;have hv4:v4= .slice none 0 0:=hr4.val;subst hv4;have HR4:=hD hr4;clear hr4)
   obtain⟨F4,_,_,_,hk4,_⟩:=HR4.out.ex
   have HV4:Hid (Sl w4 11 ROp (.slice v3A ([(⟨1,0,0,3,6,5,0,false,0,1,0⟩:OpD)].length) v3c) [⟨1,0,0,3,6,5,0,false,0,1,0⟩]):=Sl.only HV3.out hk4.only (fun b _ q=>HO3.out b q)
   have HXE:Hid (Ext w w4):=by
    have h1:=HK3.out.fresh HXW.out (fun i q=>Nat.le_trans HX2.out.size (HF2.out.new i q).1)
    exact(hk4.fresh h1.1 h1.2).1
   obtain⟨_,_,_,hA⟩:=HV4.out.at
   obtain⟨b,off,rfl,hbl,hcell⟩:=hA (by decide)
   obtain⟨cs,rfl,_,hcs⟩:=hcell 0 (by decide)
   have e0:=hcs 0 _ rfl
   simp only[Nat.zero_mul,Nat.add_zero]at e0
   clear hcell hcs hA hbl hk4 z0 z1 z2 z3 z4
   go_wp2_with fail
   go_ret
   exact⟨rfl,HXE.out⟩
theorem Y2g(d:Nat)(nk:Int)(nA:Option Addr)(nm nc:Nat)(nf ns:ByteArray)(nv:Int)(ord:ByteArray)(down:Bool)(limit:Int)(count:Bool)(w:World)(hd:NOk w d ⟨nk,.slice nA nm nc,nf,ns,nv⟩):
  Calls Tryz.prog 36 #[.agg #[.int .i64 nk,.slice nA nm nc,.string nf,.string ns,.int .i64 nv,.string ord,.bool down,.int .i64 limit,.bool count]] w fun e w'=>(∃b,e= .returned (.bool b))∧Ext w w':=by
 have cZ:Hid (∀W,Ext w W→Calls Tryz.prog 26 #[.agg #[.int .i64 nk,.slice nA nm nc,.string nf,.string ns,.int .i64 nv],.int .i64 0] W fun e w'=>V3i e∧Ext W w'):=fun W hW=>X8x d ⟨nk,.slice nA nm nc,nf,ns,nv⟩ 0 W (NOk.ext hW _ _ hd) (by decide) (by decide)
 clear hd
 go_enter Tryz.func36,Tryz.ntmps36
 go_wp2_with (go_at_call 26;(with_reducible refine(cZ.out _ ?_).mono ?_);(· exact Xt);clear cZ;rintro e w1 ⟨⟨z,rfl⟩,hx1⟩;have HX1:Hid (Ext w w1):=Ext.trans (by exact Xt) hx1;clear hx1)
 go_ret
 exact⟨⟨_,rfl⟩,HX1.out⟩
structure RunI (tb p:Nat) (ts:Nat→Nat) (S:StoreD) (F:Nat→Prop) (W:World):Prop where
 tbl:TblAt W tb p ts F
 pg:PagerAt W p F S
 lt:∀i,F i→i<W.heap.size
theorem RunI.only{tb p:Nat}{ts:Nat→Nat}{S:StoreD}{F G:Nat→Prop}{W W':World}(h:RunI tb p ts S F W)(ho:Only G W W')(hG:∀i,G i→¬F i∧i≠tb∧∀j,j<5→i≠ts j):RunI tb p ts S F W':=
 ⟨⟨ho.row h.tbl.row (fun q=>(hG _ q).2.1 rfl),fun j hj=>ho.row (h.tbl.tree j hj) (fun q=>(hG _ q).2.2 j hj rfl),h.tbl.out,h.tbl.outs⟩,h.pg.only ho (fun i q r=>(hG i r).1 q),fun i q=>Nat.lt_of_lt_of_le (h.lt i q) ho.size⟩
theorem RunR.next{tb p:Nat}{ts:Nat→Nat}{S:StoreD}{F:Nat→Prop}{count:Bool}{out:List OpD}{W W':World}{v:Value}(hr:RunR tb p ts S F count out W v W'):
  ∃F',RunI tb p ts S F' W'∧Keeps F F' W W'∧∀b,v.ownBlock=some b→¬F' b:=by
 obtain⟨F',r1,r2,r3,r4,r5⟩:=hr.ex
 exact⟨F',⟨r1,r2,r3⟩,r4,r5⟩
theorem V4e{c tb p tm:Nat}{ts:Nat→Nat}{S:StoreD}{Ts:Nat→TrD}{ls:List OpD}{F B:Nat→Prop}(hI:TabI c S Ts ls tm)(htm:tm≤40)(hlen:ls.length≤100000)(d:Nat)(t:ND)(nk:Int)(nA:Option Addr)(nm nc:Nat)(nf ns:ByteArray)(nv:Int)(ord:ByteArray)(down:Bool)(limit:Int)(count:Bool)(W:World)
 (hR:RunI tb p ts S F W)(hn:RN ⟨nk,.slice nA nm nc,nf,ns,nv⟩ (NCell.cells ⟨nk,.slice nA nm nc,nf,ns,nv⟩))(hnd:NdB B W d t ⟨nk,.slice nA nm nc,nf,ns,nv⟩)(hB:BF B F W)(hBT:∀i,B i→i≠tb∧∀j,j<5→i≠ts j)(hlim:In64 limit):
  Calls Tryz.prog 38 #[tp tb,.agg #[.int .i64 nk,.slice nA nm nc,.string nf,.string ns,.int .i64 nv,.string ord,.bool down,.int .i64 limit,.bool count]] W fun e w'=>
   ∃v,e= .returned (.tuple #[v,.int .i64 (cutL limit (runL ord down ls t ls)).length])∧RunR tb p ts S F count (cutL limit (runL ord down ls t ls)) W v w':=
 Z7y (B:=B) d t nk nA nm nc nf ns nv ord down limit count W hI.tab (fun i hi=>hI.dep htm i hi) hlen hR.tbl hR.pg hR.lt hn hnd hB hBT hlim
theorem U1d{W:World}{v:Value}{l:List OpD}(h:Sl W 11 ROp v l){b:Nat}(hl:0<l.length)(hb:v.ownBlock=some b):b<W.heap.size:=by
 obtain⟨A,c,rfl,h1,h2,h3⟩:=h
 obtain⟨b',off,rfl,hb',_⟩:=h3 hl
 have e:b'=b:=Option.some.inj hb
 omega
theorem Y6l{F F':Nat→Prop}{W W':World}{v:Value}{l:List OpD}(h:Sl W 11 ROp v l)(hv:∀b,0<l.length→v.ownBlock=some b→¬F b)(hk:Keeps F F' W W'):Sl W' 11 ROp v l∧∀b,0<l.length→v.ownBlock=some b→¬F' b:=
 ⟨h.only hk.only hv,fun b hl hb=>hk.out (U1d h hl hb) (hv b hl hb)⟩
theorem set5{w:World}{g:Nat}{t:TypeId}{c0 c1 c2 c3 c4:Value}{cs:List Value}(h:Row1 w g t (c0::c1::c2::c3::c4::cs))(u0 u1 u2 u3 u4:Value):
  Row1 (((((w.setCell ⟨g,0,none⟩ u0).setCell ⟨g,1,none⟩ u1).setCell ⟨g,2,none⟩ u2).setCell ⟨g,3,none⟩ u3).setCell ⟨g,4,none⟩ u4) g t (u0::u1::u2::u3::u4::cs):=
 ((((h.set 0 u0).set 1 u1).set 2 u2).set 3 u3).set 4 u4
theorem set1{a w:World}{g:Nat}(h:Only (fun i=>i=g) a w)(k:Nat)(u:Value):Only (fun i=>i=g) a (w.setCell ⟨g,k,none⟩ u):=h.setCell (.inl rfl) u
theorem U0p{a w:World}{g:Nat}(h:Only (fun i=>i=g) a w)(u0 u1 u2 u3 u4:Value):
  Only (fun i=>i=g) a (((((w.setCell ⟨g,0,none⟩ u0).setCell ⟨g,1,none⟩ u1).setCell ⟨g,2,none⟩ u2).setCell ⟨g,3,none⟩ u3).setCell ⟨g,4,none⟩ u4):=
 set1 (set1 (set1 (set1 (set1 h 0 u0) 1 u1) 2 u2) 3 u3) 4 u4
theorem V9z(l:List OpD):cutL (-1) l=l:=by unfold cutL;rw[if_neg (by omega)]
theorem c9{W:World}{g:Nat}{t:TypeId}{a0 a1 a2 a3 a4 a5 a6 a7 a8:Value}(h:Row1 W g t [a0,a1,a2,a3,a4,a5,a6,a7,a8]):W.cell? ⟨g,0,none⟩=some a0∧W.cell? ⟨g,1,none⟩=some a1∧W.cell? ⟨g,2,none⟩=some a2∧W.cell? ⟨g,3,none⟩=some a3∧W.cell? ⟨g,4,none⟩=some a4∧W.cell? ⟨g,5,none⟩=some a5∧W.cell? ⟨g,6,none⟩=some a6∧W.cell? ⟨g,7,none⟩=some a7∧W.cell? ⟨g,8,none⟩=some a8:=
 ⟨h.cell 0,h.cell 1,h.cell 2,h.cell 3,h.cell 4,h.cell 5,h.cell 6,h.cell 7,h.cell 8⟩
theorem c5{W:World}{g:Nat}{t:TypeId}{a0 a1 a2 a3 a4:Value}{r:List Value}(h:Row1 W g t (a0::a1::a2::a3::a4::r)):W.cell? ⟨g,0,none⟩=some a0∧W.cell? ⟨g,1,none⟩=some a1∧W.cell? ⟨g,2,none⟩=some a2∧W.cell? ⟨g,3,none⟩=some a3∧W.cell? ⟨g,4,none⟩=some a4:=
 ⟨h.cell 0,h.cell 1,h.cell 2,h.cell 3,h.cell 4⟩
end
end Go.Proofs.YtmiolpfanlpfnaaGreat
