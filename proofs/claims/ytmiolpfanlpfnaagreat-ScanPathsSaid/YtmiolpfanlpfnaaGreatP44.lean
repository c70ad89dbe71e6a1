/- cmp.Compare at numbers. No conditions. -/
import Derived.Shelf.SlSortCmp.WholeK
import Derived.Test.YtmiolpfanlpfnaaGreatP04
set_option maxRecDepth 100000
set_option maxHeartbeats 800000
set_option linter.unusedSimpArgs false
set_option linter.unusedVariables false
namespace Go.Proofs.YtmiolpfanlpfnaaGreat
section
open Go.RowKit
theorem V1t(x:Int)(w:World):Calls Tryz.prog 196 #[.int .i64 x] w fun e w'=>e= .returned (.bool false)∧w=w':=by
 go_enter Tryz.func196,Tryz.ntmps196
 go_wp2
 go_ret
 exact⟨by simp,rfl⟩
def cmpI(x y:Int):Int:=if x<y then -1 else if y<x then 1 else 0
theorem Z7z(x y:Int)(w:World):Calls Tryz.prog 139 #[.int .i64 x,.int .i64 y] w fun e w'=>e= .returned (.int .i64 (cmpI x y))∧w=w':=by
 go_enter Tryz.func139,Tryz.ntmps139
 go_wp2_with (go_at_call 196;refine(V1t _ _).mono ?_;rintro e w' ⟨rfl,rfl⟩)
 all_goals (go_ret;refine⟨?_,rfl⟩;simp[cmpI];try omega)
end
section
open Go.RowKit Go.Sort Go.Shelf Go.Proofs
section
variable {α:Type} [Inhabited α]
theorem Y8c{w:World}{base k n cap g:Nat}{e:TypeId}{enc:α→List Value}(hk:∀x,(enc x).length=k){xs:List α}(h:w.ownsRow base e k (.slice (some ⟨g,0,none⟩) n cap) n (xs.flatMap enc)):HoldsK enc k w g 0 xs.toArray:=by
 intro j hj
 rw[size_flatK]at hj
 simp only[List.size_toArray]at hj
 obtain⟨A,c,he,_,_,hx⟩:=Z2w h
 injection he with he _ hc
 have k0:0<k:=by rcases Nat.eq_zero_or_pos k with e | e;(subst e;omega);exact e
 have hi:j/k<xs.length:=Nat.div_lt_of_lt_mul (by rw[Nat.mul_comm];exact hj)
 have hm:j%k<k:=Nat.mod_lt _ k0
 have hn:0<n:=by
  have h1:=h.1
  rw[Z3o enc k hk]at h1
  rcases Nat.eq_zero_or_pos n with e | e
  ·subst e;omega
  ·exact e
 obtain⟨g',e',_,_,hf,hc⟩:=hx hn
 rw[←he]at e'
 injection e' with e'
 injection e' with e'
 subst e'
 rw[Nat.zero_add]
 refine⟨?_,hf j⟩
 rw[get_flatK _ _ _ _ (by simpa using hj)]
 have hv:(enc xs[j/k])[j%k]? =some ((enc xs[j/k])[j%k]'(by rw[hk];exact hm)):=List.getElem?_eq_getElem _
 have h1:=Z2l enc k hk xs (j/k) _ (List.getElem?_eq_getElem hi) (j%k) _ hv
 have hd:j/k*k+j%k=j:=by rw[Nat.mul_comm];exact Nat.div_add_mod j k
 rw[hd]at h1
 rw[hc j _ h1]
 simp[hi,hk,hm]
theorem Y9h{w:World}{k n cap g:Nat}{enc:α→List Value}{R:α→List Value→Prop}(hk:∀x,(enc x).length=k)(hR:∀x,R x (enc x)){d:Array α}(h:HoldsK enc k w g 0 d)(hn:n=d.size)(hc:n≤cap)(hm:cap≤maxLen)(hg:g<w.heap.size):Sl w k R (.slice (some ⟨g,0,none⟩) n cap) d.toList:=by
 subst hn
 refine⟨_,cap,by simp,by simpa using hc,hm,fun _=>⟨g,0,rfl,hg,fun i x hi=>⟨enc x,hR x,hk x,fun j u hu=> ?_⟩⟩⟩
 obtain⟨hi',rfl⟩:=List.getElem?_eq_some_iff.1 hi
 have hj:j<k:=by rw[←hk];exact(List.getElem?_eq_some_iff.1 hu).1
 have hi2:i<d.size:=by simpa using hi'
 rw[(h.cell hi2 hj).1]
 have e:d[i]! =d.toList[i]:=by simp[hi2]
 rw[e]
 obtain⟨hj',e2⟩:=List.getElem?_eq_some_iff.1 hu
 rw[getElem!_pos _ j hj',e2]
theorem Y8e{w:World}{g m:Nat}{os:Array Obj}{k:Nat}{enc:α→List Value}(d:Array α):w.grownBy (sortWorldK enc k w g 0 m d os) (some g):=by
 refine⟨rfl,rfl,rfl,by simp[sortWorldK,putRowK],fun b hb hne=> ?_⟩
 unfold sortWorldK
 rw[heap_grow_old _ _ (by simpa [putRowK]using hb)]
 have:g≠b:=fun e=>hne (by rw[e])
 simp[putRowK,putRow,mapBlock,Sort.ahead,Array.getElem?_modify,this]
theorem X1s{d d':Array α}(h:PermIn 0 d.size d d'):d'.toList.Perm d.toList:=by
 obtain⟨h1,_,h2⟩:=h
 have e1:d'.extract 0 d.size=d':=by rw[←h1];simp
 have e2:d.extract 0 d.size=d:=by simp
 rwa [e1,e2]at h2
theorem Y0a{lt:α→α→Bool}{d:Array α}{n:Nat}(hn:n=d.size)(h:SortedIn lt 0 n d):d.toList.Pairwise (fun a b=>lt b a=false):=by
 subst hn
 rw[List.pairwise_iff_getElem]
 intro i j hi hj hij
 have:=h i j (Nat.zero_le _) hij (by simpa using hj)
 simp only[Array.length_toList]at hi hj
 simpa [hi,hj]using this
end
open Go.RowKit Go.Sort Go.Shelf Go.Proofs
end
section
open Go.RowKit
structure Bnd where
 field:ByteArray
 lo:Int
 hi:Int
deriving DecidableEq
def Bnd.cells(b:Bnd):List Value:= [.string b.field,.int .i64 b.lo,.int .i64 b.hi]
def RBnd(b:Bnd)(cs:List Value):Prop:=cs=b.cells
theorem Y1m(f:ByteArray)(a b:Int)(w:World):
  Calls Tryz.prog 76 #[.agg #[.string f,.int .i64 a,.int .i64 b]] w fun e w'=>e= .returned (.bool (a==b))∧Ext w w':=by
 go_enter Tryz.func76,Tryz.ntmps76
 go_wp2
 go_ret
 exact⟨rfl,by exact Xt⟩
theorem Z8i(f s:ByteArray)(n:Int)(w:World):
  Calls Tryz.prog 46 #[.string f,.string s,.int .i64 n] w fun e w'=>e= .returned (.agg #[.int .i64 4,.slice none 0 0,.string f,.string s,.int .i64 n])∧Ext w w':=by
 go_enter Tryz.func46,Tryz.ntmps46
 go_wp2
 refine bodyPost_ret (v:= .agg #[.int .i64 4,.slice none 0 0,.string f,.string s,.int .i64 n]) (by simp[results,Tryz.results46,go_sem]) rfl ⟨rfl,by exact Xt⟩
def Z5v(l:List UInt8)(v:Int):Option (Int×Int):=
 if l= [61]then some (v,v)else
 if l= [60]then(if v= -9223372036854775808 then some (9223372036854775807,-9223372036854775808)else some (-9223372036854775808,v-1))else
 if l= [60,61]then some (-9223372036854775808,v)else
 if l= [62]then(if v=9223372036854775807 then some (9223372036854775807,-9223372036854775808)else some (v+1,9223372036854775807))else
 if l= [62,61]then some (v,9223372036854775807)else none
def U0v(l:List UInt8)(v:Int)(e:Ending):Prop:=
 ∃a b ok,e= .returned (.tuple #[.int .i64 a,.int .i64 b,.bool ok])∧Z5v l v=(if ok then some (a,b)else none)
theorem X6u(k v:Int)(kids:Value)(f s:ByteArray)(w:World)(hv1: -9223372036854775808≤v)(hv2:v≤9223372036854775807):
  Calls Tryz.prog 80 #[.agg #[.int .i64 k,kids,.string f,.string s,.int .i64 v]] w fun e w'=>U0v s.toList v e∧Ext w w':=by
 go_enter Tryz.func80,Tryz.ntmps80
 go_wp2
 all_goals (try go_quiet (fail))
 all_goals (try go_wp2)
 all_goals (try go_quiet (fail))
 all_goals (try go_wp2)
 all_goals (try go_quiet (fail))
 all_goals (go_ret3)
 all_goals (refine ⟨⟨_,_,_,rfl,?_⟩,by exact Xt⟩)
 all_goals go_light
 all_goals (simp_all [Z5v];try (unfold wrap64;omega))
def Z1h(f:ByteArray):List Bnd→Bnd
 | []=>⟨f,-9223372036854775808,9223372036854775807⟩
 | b::r=>if b.field.toList=f.toList then b else Z1h f r
theorem X0q(f:ByteArray):∀(xs:List Bnd) (k:Nat) (h:k<xs.length),xs[k].field.toList=f.toList→(∀j (hj:j<k),xs[j].field.toList≠f.toList)→Z1h f xs=xs[k]
 | [],_,h,_,_=>absurd h (by simp)
 | b::r,0,_,h1,_=>by
   have e:b.field.toList=f.toList:=h1
   simp only[Z1h]
   rw[if_pos e];rfl
 | b::r,k+1,h,h1,h2=>by
   have e:¬b.field.toList=f.toList:=h2 0 (by omega)
   simp only[Z1h]
   rw[if_neg e]
   exact X0q f r k (by simpa using h) h1 (fun j hj=>h2 (j+1) (by omega))
theorem Y6e(f:ByteArray):∀(xs:List Bnd),(∀j (hj:j<xs.length),xs[j].field.toList≠f.toList)→Z1h f xs=⟨f,-9223372036854775808,9223372036854775807⟩
 | [],_=>rfl
 | b::r,h=>by
   have e:¬b.field.toList=f.toList:=h 0 (by simp)
   simp only[Z1h]
   rw[if_neg e]
   exact Y6e f r (fun j hj=>h (j+1) (by simp;omega))
theorem V9x(g:ByteArray)(a b:Int)(p:Nat)(f:ByteArray)(w:World)(hp:w.cell? ⟨p,0,none⟩=some (.string f))(hpl:p<w.heap.size):
  Calls Tryz.prog 136 #[.agg #[.string g,.int .i64 a,.int .i64 b],.pointer (some ⟨p,0,none⟩)] w fun e w'=>e= .returned (.bool (g.toList==f.toList))∧Ext w w':=by
 go_enter Tryz.func136,Tryz.ntmps136
 go_wp2
 go_ret
 exact⟨by simp,by exact Xt⟩
def IdxR(xs:List Bnd)(f:ByteArray)(e:Ending):Prop:=
 ∃r:Int,e= .returned (.int .i64 r)∧((r= -1∧∀j (hj:j<xs.length),xs[j].field.toList≠f.toList)∨
  ∃k,∃h:k<xs.length,r=k∧xs[k].field.toList=f.toList∧∀j (hj:j<k),xs[j].field.toList≠f.toList)
theorem Y8b(v:Value)(xs:List Bnd)(p:Nat)(f:ByteArray)(w:World)(hs:Sl w 3 RBnd v xs)(hp:w.cell? ⟨p,0,none⟩=some (.string f))(hpl:p<w.heap.size):
  Calls Tryz.prog 135 #[v,.func (.func 136) #[] #[.pointer (some ⟨p,0,none⟩)]] w fun e w'=>IdxR xs f e∧Ext w w':=by
 obtain⟨A,c,rfl⟩:=hs.form
 obtain⟨_,hc1,hc2,hA⟩:=hs.at
 go_enter Tryz.func135,Tryz.ntmps135
 go_wp2_with fail
 go_loopw [8] (fun i wr=>∃k:Nat,k≤xs.length∧i= .int .i64 k∧Ext w wr∧∀j (hj:j<xs.length),j<k→xs[j].field.toList≠f.toList) (fun i _=>xs.length-(intOf i).toNat)
 case atStart=>exact⟨0,Nat.zero_le _,rfl,Ext.refl _,fun j _ h=>absurd h (by omega)⟩
 case round=>
  obtain⟨k,hk,rfl,hb,hf⟩:=hrel
  have HF:=hD hf
  have HB:=hD hb
  clear hf hb
  by_cases hlt:k<xs.length
  ·obtain⟨b,off,rfl,hbl,hx⟩:=hA (by omega)
   obtain⟨cs,rfl,_,hcs⟩:=hx k hlt
   have hw:=fun j u hu=>(HB.out.cell (p:=⟨b,off+k*3+j,none⟩) hbl).trans (hcs j u hu)
   have h0:=hw 0 _ rfl
   have h1:=hw 1 _ rfl
   have h2:=hw 2 _ rfl
   simp only[Nat.add_zero]at h0
   clear hx hcs hw
   go_wp2_with fail
   refine(V9x _ _ _ p f _ ((HB.out.cell (p:=⟨p,0,none⟩) hpl).trans hp) (Nat.lt_of_lt_of_le hpl HB.out.size)).mono ?_
   rintro e w1 ⟨rfl,hb1⟩
   have HB1:=hD (Ext.trans HB.out hb1)
   clear hb1
   by_cases heq:xs[k].field.toList=f.toList
   ·have hq:(xs[k].field.toList==f.toList)=true:=by simpa using heq
    go_wp2_with fail
    go_ret
    exact⟨⟨_,rfl,.inr ⟨k,hlt,rfl,heq,fun j hj=>HF.out j (by omega) hj⟩⟩,HB1.out⟩
   ·have hq:(xs[k].field.toList==f.toList)=false:=by simpa using heq
    go_wp2_with fail
    go_roundw
    case rel=>
     refine⟨k+1,by omega,by go_num,HB1.out,fun j hj hjk=> ?_⟩
     by_cases e:j=k
     ·subst e;exact heq
     ·exact HF.out j hj (by omega)
    case measure=>simp[intOf];omega
  ·go_wp2_with fail
   go_ret
   exact⟨⟨_,rfl,.inl ⟨rfl,fun j hj=>HF.out j hj (by omega)⟩⟩,HB.out⟩
theorem X6d(v:Value)(xs:List Bnd)(f:ByteArray)(w:World)(hs:Sl w 3 RBnd v xs):
  Calls Tryz.prog 75 #[v,.string f] w fun e w'=>e= .returned (.agg #[.string (Z1h f xs).field,.int .i64 (Z1h f xs).lo,.int .i64 (Z1h f xs).hi])∧Ext w w':=by
 obtain⟨A,c,rfl⟩:=hs.form
 have hs0:=hD hs
 obtain⟨_,hc1,hc2,hA⟩:=hs.at
 have hmf:∀(fn:Fn) (first cap:Array Value) (w:World),(Instr.makeFunc fn first cap).run Tryz.prog w= .ok (.func fn first cap) w:=fun _ _ _ _=>rfl
 go_enter Tryz.func75,Tryz.ntmps75
 go_wp2_with fail
 refine(Y8b _ xs w.heap.size f _ (hs0.out.ext (by exact Xt)) (by simp) (by simp;omega)).mono ?_
 rintro e w1 ⟨⟨r,rfl,hr⟩,hb1⟩
 obtain⟨hcl,hfl⟩:=U1k hb1
 have hsz:=hb1.size
 simp at hsz
 have HB:=hD (Ext.trans (by exact Xt:Ext w _) hb1)
 clear hb1
 rcases hr with ⟨rfl,hr⟩ | ⟨k,hk,rfl,h1,h2⟩
 ·have HR:=hD (Y6e f xs hr)
  clear hr
  go_wp2_with fail
  rw[HR.out]
  refine bodyPost_ret (v:= .agg #[.string f,.int .i64 (-9223372036854775808),.int .i64 9223372036854775807]) (by simp[results,Tryz.results75,go_sem,hcl]) rfl ⟨rfl,by exact Xx (HB.out)⟩
 ·have HR:=hD (X0q f xs k hk h1 h2)
  clear h1 h2
  obtain⟨b,off,rfl,hbl,hx⟩:=hA (by omega)
  obtain⟨cs,rfl,_,hcs⟩:=hx k hk
  have hw:=fun j u hu=>(HB.out.cell (p:=⟨b,off+k*3+j,none⟩) hbl).trans (hcs j u hu)
  have h0:=hw 0 _ rfl
  have h1:=hw 1 _ rfl
  have h2:=hw 2 _ rfl
  simp only[Nat.add_zero]at h0
  clear hx hcs hw hs
  go_wp2_with fail
  rw[HR.out]
  refine bodyPost_ret (v:= .agg #[.string xs[k].field,.int .i64 xs[k].lo,.int .i64 xs[k].hi]) (by simp[results,Tryz.results75,go_sem,hcl]) rfl ⟨rfl,by exact Xx (HB.out)⟩
structure Grp where
 val:Int
 cnt:Int
deriving DecidableEq
def Grp.cells(g:Grp):List Value:= [.int .i64 g.val,.int .i64 g.cnt]
def RG(g:Grp)(cs:List Value):Prop:=cs=g.cells
def Y4x(gs:List Grp):Prop:=∀i j (hi:i<gs.length) (hj:j<gs.length),i<j→gs[i].val<gs[j].val
def cntL(v:Int):List Grp→Int
 | []=>0
 | g::r=>if g.val=v then g.cnt else cntL v r
theorem X4v(v:Int):∀(gs:List Grp) (k:Nat) (h:k<gs.length),gs[k].val=v→(∀j (hj:j<k),gs[j].val≠v)→cntL v gs=gs[k].cnt
 | [],_,h,_,_=>absurd h (by simp)
 | g::r,0,_,h1,_=>by
   have e:g.val=v:=h1
   simp only[cntL]
   rw[if_pos e];rfl
 | g::r,k+1,h,h1,h2=>by
   have e:¬g.val=v:=h2 0 (by omega)
   simp only[cntL]
   rw[if_neg e]
   exact X4v v r k (by simpa using h) h1 (fun j hj=>h2 (j+1) (by omega))
theorem Z9n(v:Int):∀(gs:List Grp),(∀j (hj:j<gs.length),gs[j].val≠v)→cntL v gs=0
 | [],_=>rfl
 | g::r,h=>by
   have e:¬g.val=v:=h 0 (by simp)
   simp only[cntL]
   rw[if_neg e]
   exact Z9n v r (fun j hj=>h (j+1) (by simp;omega))
theorem Y6g(a c v:Int)(w:World):
  Calls Tryz.prog 138 #[.agg #[.int .i64 a,.int .i64 c],.int .i64 v] w fun e w'=>e= .returned (.int .i64 (cmpI a v))∧Ext w w':=by
 go_enter Tryz.func138,Tryz.ntmps138
 go_wp2_with (go_at_call 139;refine(Z7z _ _ _).mono ?_;rintro e w' ⟨rfl,rfl⟩)
 go_ret
 exact⟨rfl,by exact Xt⟩
def BsR(gs:List Grp)(v:Int)(e:Ending):Prop:=
 ∃(i:Nat) (ok:Bool),e= .returned (.tuple #[.int .i64 i,.bool ok])∧i≤gs.length∧(∀j (hj:j<gs.length),j<i→gs[j].val<v)∧
  (ok=true→∃h:i<gs.length,gs[i].val=v)∧(ok=false→∀j (hj:j<gs.length),gs[j].val≠v)
theorem Y1v(V:Value)(gs:List Grp)(v:Int)(w:World)(hs:Sl w 2 RG V gs)(hr:Y4x gs)(hn:gs.length≤1000000000):
  Calls Tryz.prog 137 #[V,.int .i64 v,.func (.func 138) #[] #[]] w fun e w'=>BsR gs v e∧Ext w w':=by
 obtain⟨A,c,rfl⟩:=hs.form
 obtain⟨_,hc1,hc2,hA⟩:=hs.at
 have HR:=hD hr
 clear hr
 go_enter Tryz.func137,Tryz.ntmps137
 go_wp2_with fail
 go_loopw [9,10] (fun i j wr=>∃lo hi:Nat,lo≤hi∧hi≤gs.length∧i= .int .i64 lo∧j= .int .i64 hi∧Ext w wr∧
   (∀k (hk:k<gs.length),k<lo→gs[k].val<v)∧(∀k (hk:k<gs.length),hi≤k→v≤gs[k].val)) (fun i j _=>(intOf j).toNat-(intOf i).toNat)
 case atStart=>exact⟨0,gs.length,by omega,by omega,rfl,rfl,Ext.refl _,fun k _ h=>absurd h (by omega),fun k _ h=>absurd h (by omega)⟩
 case round=>
  obtain⟨lo,hi,h1,h2,rfl,rfl,hb,hlow,hhigh⟩:=hrel
  have HB:=hD hb
  have HL:=hD hlow
  have HH:=hD hhigh
  clear hb hlow hhigh
  by_cases hlt:lo<hi
  ·obtain⟨b,off,rfl,hbl,hx⟩:=hA (by omega)
   have hm:(lo+hi)/2<gs.length:=by omega
   obtain⟨cs,rfl,_,hcs⟩:=hx ((lo+hi)/2) hm
   have hw:=fun j u hu=>(HB.out.cell (p:=⟨b,off+(lo+hi)/2*2+j,none⟩) hbl).trans (hcs j u hu)
   have h3:=hw 0 _ rfl
   have h4:=hw 1 _ rfl
   simp only[Nat.add_zero]at h3
   clear hx hcs hw
   have HC:=hD (show gs[(lo+hi)/2].val<v∨v≤gs[(lo+hi)/2].val by omega)
   go_wp2_with fail
   refine(Y6g _ _ _ _).mono ?_
   rintro e w1 ⟨rfl,hb1⟩
   have HB1:=hD (Ext.trans HB.out hb1)
   clear hb1
   rcases HC.out with h | h
   ·have hd:decide (cmpI gs[(lo+hi)/2].val v<0)=true:=by simp[cmpI,h]
    go_wp2_with fail
    go_roundw
    case rel=>
     refine⟨(lo+hi)/2+1,hi,by omega,by omega,by rw[show ((lo:Int)+(hi:Int))/2+1=(((lo+hi)/2+1:Nat):Int)by omega],rfl,HB1.out,fun k hk hkl=> ?_,HH.out⟩
     rcases Nat.lt_or_ge k ((lo+hi)/2)with hl | hl
     ·exact Int.lt_trans (HR.out k _ hk hm hl) h
     ·obtain rfl:k=(lo+hi)/2:=by omega
      exact h
    case measure=>simp[intOf];omega
   ·have hd:decide (cmpI gs[(lo+hi)/2].val v<0)=false:=by simp[cmpI,Int.not_lt.2 h];split<;>simp
    go_wp2_with fail
    go_roundw
    case rel=>
     refine⟨lo,(lo+hi)/2,by omega,by omega,rfl,by rw[show ((lo:Int)+(hi:Int))/2=(((lo+hi)/2:Nat):Int)by omega],HB1.out,HL.out,fun k hk hkl=> ?_⟩
     rcases Nat.lt_or_ge ((lo+hi)/2) k with hl | hl
     ·have:=HR.out _ _ hm hk hl;omega
     ·obtain rfl:k=(lo+hi)/2:=by omega
      exact h
    case measure=>simp[intOf];omega
  ·obtain rfl:hi=lo:=by omega
   by_cases hlen:hi<gs.length
   ·obtain⟨b,off,rfl,hbl,hx⟩:=hA (by omega)
    obtain⟨cs,rfl,_,hcs⟩:=hx hi hlen
    have hw:=fun j u hu=>(HB.out.cell (p:=⟨b,off+hi*2+j,none⟩) hbl).trans (hcs j u hu)
    have h3:=hw 0 _ rfl
    have h4:=hw 1 _ rfl
    simp only[Nat.add_zero]at h3
    clear hx hcs hw
    go_wp2_with fail
    refine(Y6g _ _ _ _).mono ?_
    rintro e w1 ⟨rfl,hb1⟩
    have HB1:=hD (Ext.trans HB.out hb1)
    clear hb1
    go_wp2_with fail
    go_ret2
    refine⟨⟨hi,_,rfl,h2,HL.out,fun h=>⟨hlen,?_⟩,fun h j hj=> ?_⟩,HB1.out⟩
    ·simp[cmpI]at h;split at h<;>first | omega | (split at h<;>omega)
    ·have hne:gs[hi].val≠v:=by intro e;simp[cmpI,e]at h
     rcases Nat.lt_or_ge j hi with hl | hl
     ·have:=HL.out j hj hl;omega
     ·have h5:=HH.out hi hlen (Nat.le_refl _)
      rcases Nat.lt_or_ge hi j with hl2 | hl2
      ·have:=HR.out _ _ hlen hj hl2;omega
      ·obtain rfl:j=hi:=by omega
       exact hne
   ·go_wp2_with fail
    go_ret2
    refine⟨⟨hi,false,by rfl,h2,HL.out,(by intro h;cases h),fun _ j hj=> ?_⟩,HB.out⟩
    have:=HL.out j hj (by omega);omega
def insG(v:Int):List Grp→List Grp
 | []=> [⟨v,1⟩]
 | g::r=>if g.val<v then g::insG v r else if g.val=v then⟨v,g.cnt+1⟩::r else⟨v,1⟩::g::r
def Z0s(vs:List Int):List Grp:=vs.foldl (fun gs v=>insG v gs) []
theorem X0h(vs:List Int)(k:Nat)(h:k<vs.length):Z0s (vs.take (k+1))=insG vs[k] (Z0s (vs.take k)):=by
 unfold Z0s
 rw[List.take_succ_eq_append_getElem h,List.foldl_append]
 rfl
theorem X4k(v:Int):∀gs:List Grp,(insG v gs).length≤gs.length+1
 | []=>by simp[insG]
 | g::r=>by
   have:=X4k v r
   simp only[insG]
   split
   ·simp;omega
   ·split<;>simp
abbrev RisG(gs:List Grp):Prop:=gs.Pairwise (fun a b=>a.val<b.val)
theorem RisG.rising{gs:List Grp}(h:RisG gs):Y4x gs:=fun i j hi hj hij=>List.pairwise_iff_getElem.1 h i j hi hj hij
theorem X4b(v:Int):∀(gs:List Grp) (x:Grp),x∈insG v gs→x.val=v∨x∈gs
 | [],x,h=>by simp[insG]at h;exact .inl (by rw[h])
 | g::r,x,h=>by
   simp only[insG]at h
   split at h
   ·rcases List.mem_cons.1 h with rfl | h
    ·exact .inr (by simp)
    ·rcases X4b v r x h with h | h
     ·exact .inl h
     ·exact .inr (by simp[h])
   ·split at h
    ·rcases List.mem_cons.1 h with rfl | h
     ·exact .inl rfl
     ·exact .inr (by simp[h])
    ·rcases List.mem_cons.1 h with rfl | h
     ·exact .inl rfl
     ·exact .inr h
theorem Y8a(v:Int):∀gs:List Grp,RisG gs→RisG (insG v gs)
 | [],_=>by simp[insG,RisG]
 | g::r,h=>by
   have h1:=List.pairwise_cons.1 h
   simp only[insG]
   split
   ·rename_i hl
    refine List.pairwise_cons.2 ⟨fun x hx=> ?_,Y8a v r h1.2⟩
    rcases X4b v r x hx with e | e
    ·rw[e];exact hl
    ·exact h1.1 x e
   ·split
    ·rename_i hl he
     refine List.pairwise_cons.2 ⟨fun x hx=> ?_,h1.2⟩
     have:=h1.1 x hx
     simp only
     omega
    ·rename_i hl he
     refine List.pairwise_cons.2 ⟨fun x hx=> ?_,h⟩
     simp only
     rcases List.mem_cons.1 hx with rfl | hx
     ·omega
     ·have:=h1.1 x hx;omega
theorem Z5x(vs:List Int):RisG (Z0s vs):=by
 have h:∀(vs:List Int) (gs:List Grp),RisG gs→RisG (vs.foldl (fun gs v=>insG v gs) gs):=by
  intro vs
  induction vs with
  | nil=>intro gs h;exact h
  | cons v r ih=>intro gs h;exact ih _ (Y8a v gs h)
 exact h vs [] List.Pairwise.nil
theorem X9x:∀(a b:List Grp),RisG a→RisG b→(∀g,g∈a↔g∈b)→a=b
 | [],[],_,_,_=>rfl
 | [],y::s,_,_,h=>by have:=(h y).2 (by simp);simp at this
 | x::r,[],_,_,h=>by have:=(h x).1 (by simp);simp at this
 | x::r,y::s,ha,hb,h=>by
   have h1:=List.pairwise_cons.1 ha
   have h2:=List.pairwise_cons.1 hb
   have e:x=y:=by
    rcases List.mem_cons.1 ((h x).1 (by simp))with e | e
    ·exact e
    ·rcases List.mem_cons.1 ((h y).2 (by simp))with e' | e'
     ·exact e'.symm
     ·have:=h2.1 x e;have:=h1.1 y e';omega
   subst e
   congr 1
   refine X9x r s h1.2 h2.2 (fun g=>⟨fun hg=> ?_,fun hg=> ?_⟩)
   ·rcases List.mem_cons.1 ((h g).1 (by simp[hg]))with e | e
    ·subst e;have:=h1.1 g hg;omega
    ·exact e
   ·rcases List.mem_cons.1 ((h g).2 (by simp[hg]))with e | e
    ·subst e;have:=h2.1 g hg;omega
    ·exact e
theorem Y1l(v:Int):∀(gs:List Grp),RisG gs→∀g,g∈insG v gs↔(g.val≠v∧g∈gs)∨(g.val=v∧g.cnt=cntL v gs+1)
 | [],_,g=>by
   obtain⟨a,b⟩:=g
   simp[insG,cntL]
 | x::r,h,g=>by
   have h1:=List.pairwise_cons.1 h
   have ih:=Y1l v r h1.2 g
   obtain⟨a,b⟩:=g
   simp only[insG]
   split
   ·rename_i hl
    have hne:x.val≠v:=by omega
    simp only[List.mem_cons,ih,cntL,if_neg hne]
    constructor
    ·rintro(rfl | h | h)
     ·exact .inl ⟨hne,.inl rfl⟩
     ·exact .inl ⟨h.1,.inr h.2⟩
     ·exact .inr h
    ·rintro(⟨h,rfl | h'⟩ | h)
     ·exact .inl rfl
     ·exact .inr (.inl ⟨h,h'⟩)
     ·exact .inr (.inr h)
   ·have nov:∀y∈r,y.val≠v:=fun y hy=>by have:=h1.1 y hy;omega
    split
    ·rename_i hl he
     simp only[List.mem_cons,cntL,if_pos he]
     constructor
     ·rintro(h | h)
      ·injection h with e1 e2;exact .inr ⟨e1,e2⟩
      ·exact .inl ⟨nov _ h,.inr h⟩
     ·rintro(⟨hn,rfl | h'⟩ | ⟨e1,e2⟩)
      ·exact absurd he hn
      ·exact .inr h'
      ·exact .inl (by cases e1;cases e2;rfl)
    ·rename_i hl he
     have hz:cntL v r=0:=Z9n v r (fun j hj=>nov _ (List.getElem_mem hj))
     simp only[List.mem_cons,cntL,if_neg he,hz]
     constructor
     ·rintro(h | rfl | h)
      ·injection h with e1 e2;exact .inr ⟨e1,by simp[e2]⟩
      ·exact .inl ⟨he,.inl rfl⟩
      ·exact .inl ⟨nov _ h,.inr h⟩
     ·rintro(⟨h,h' | h'⟩ | ⟨e1,e2⟩)
      ·exact .inr (.inl h')
      ·exact .inr (.inr h')
      ·exact .inl (by cases e1;cases e2;rfl)
def Z9s(C:Int→Nat)(gs:List Grp):Prop:=∀g:Grp,g∈gs↔0<C g.val∧g.cnt=(C g.val:Int)
theorem Y4q{C:Int→Nat}{gs:List Grp}(h:Z9s C gs)(v:Int):cntL v gs=(C v:Int):=by
 by_cases hz:0<C v
 ·have hm:=(h ⟨v,C v⟩).2 ⟨hz,rfl⟩
  have hit:∀gs:List Grp,(∀g∈gs,g.cnt=(C g.val:Int))→(⟨v,C v⟩:Grp)∈gs→cntL v gs=(C v:Int):=by
   intro gs
   induction gs with
   | nil=>intro _ h;simp at h
   | cons x r ih=>
     intro ha hm
     simp only[cntL]
     by_cases e:x.val=v
     ·rw[if_pos e,ha x (by simp),e]
     ·rw[if_neg e]
      rcases List.mem_cons.1 hm with e' | hm
      ·exact absurd (by rw[←e']) e
      ·exact ih (fun g hg=>ha g (by simp[hg])) hm
  exact hit gs (fun g hg=>((h g).1 hg).2) hm
 ·rw[Z9n v gs (fun j hj e=>hz (by have:=((h gs[j]).1 (List.getElem_mem hj)).1;rwa [e]at this))]
  omega
theorem X2p{C:Int→Nat}{gs:List Grp}(hr:RisG gs)(h:Z9s C gs)(v:Int):Z9s (fun x=>C x+if x=v then 1 else 0) (insG v gs):=by
 intro g
 rw[Y1l v gs hr g,Y4q h v,h g]
 by_cases e:g.val=v
 ·simp[e]
 ·simp[e]
theorem Z7y(vs:List Int):Z9s (fun x=>vs.count x) (Z0s vs):=by
 have h:∀(vs:List Int) (C:Int→Nat) (gs:List Grp),RisG gs→Z9s C gs→Z9s (fun x=>C x+vs.count x) (vs.foldl (fun gs v=>insG v gs) gs):=by
  intro vs
  induction vs with
  | nil=>intro C gs _ h;simpa using h
  | cons v r ih=>
    intro C gs hr h
    have:=ih _ _ (Y8a v gs hr) (X2p hr h v)
    intro g
    rw[List.foldl_cons,this g]
    simp only[List.count_cons]
    have e:(C g.val+(if g.val=v then 1 else 0)+List.count g.val r)=C g.val+(List.count g.val r+if(v==g.val)=true then 1 else 0):=by
     by_cases q:g.val=v
     ·simp[q];omega
     ·have q':¬v=g.val:=fun z=>q z.symm
      simp[q,q']
    rw[e]
 have:=h vs (fun _=>0) [] List.Pairwise.nil (fun g=>by simp)
 unfold Z0s
 simpa using this
theorem Y5c(vs:List Int)(gs:List Grp)(hr:RisG gs)(h:Z9s (fun x=>vs.count x) gs):gs=Z0s vs:=
 X9x _ _ hr (Z5x vs) (fun g=>(h g).trans (Z7y vs g).symm)
theorem X2i(vs:List Int)(k:Nat)(h:k≤vs.length):(Z0s (vs.take k)).length≤k:=by
 induction k with
 | zero=>simp[Z0s]
 | succ k ih=>
   rw[X0h vs k (by omega)]
   have:=X4k vs[k] (Z0s (vs.take k))
   have:=ih (by omega)
   omega
theorem Y7b(V:Value)(gs:List Grp)(v:Int)(w:World)(hs:Sl w 2 RG V gs)(hr:Y4x gs)(hn:gs.length≤1000000000):
  Calls Tryz.prog 78 #[V,.int .i64 v] w fun e w'=>e= .returned (.int .i64 (cntL v gs))∧Ext w w':=by
 obtain⟨A,c,rfl⟩:=hs.form
 obtain⟨_,hc1,hc2,hA⟩:=hs.at
 have HS:=hD hs
 have HR:=hD hr
 clear hs hr
 go_enter Tryz.func78,Tryz.ntmps78
 go_wp2_with fail
 refine(Y1v _ gs v _ HS.out HR.out hn).mono ?_
 rintro e w1 ⟨⟨i,ok,rfl,h1,h2,h3,h4⟩,hb1⟩
 have H2:=hD h2
 have HB1:=hD hb1
 clear hb1 h2
 cases ok with
 | true=>
   obtain⟨hi,hv⟩:=h3 rfl
   have H3:=hD (X4v v gs i hi hv (fun j hj=>by have:=H2.out j (by omega) hj;omega))
   clear h3 h4 hv
   obtain⟨b,off,rfl,hbl,hx⟩:=hA (by omega)
   obtain⟨cs,rfl,_,hcs⟩:=hx i hi
   have hw:=fun j u hu=>(HB1.out.cell (p:=⟨b,off+i*2+j,none⟩) hbl).trans (hcs j u hu)
   have h5:=hw 1 _ rfl
   clear hx hcs hw
   go_wp2_with fail
   rw[H3.out]
   go_ret
   exact⟨rfl,HB1.out⟩
 | false=>
   have H3:=hD (Z9n v gs (h4 rfl))
   clear h3 h4
   go_wp2_with fail
   rw[H3.out]
   go_ret
   exact⟨rfl,HB1.out⟩
def RI(x:Int)(cs:List Value):Prop:=cs= [.int .i64 x]
theorem V1u(V U:Value)(xs:List Int)(w:World)(hs:Sl w 1 RI V xs)(hu:Sl w 1 RI U xs):
  Calls Tryz.prog 44 #[V,U] w fun e w'=>e= .returned (.bool true)∧Ext w w':=by
 obtain⟨A,c,rfl⟩:=hs.form
 obtain⟨_,hc1,hc2,hA⟩:=hs.at
 obtain⟨A',c',rfl⟩:=hu.form
 obtain⟨_,hc1',hc2',hA'⟩:=hu.at
 go_enter Tryz.func44,Tryz.ntmps44
 go_wp2_with fail
 go_loopw [5] (fun i wr=>∃k:Nat,k≤xs.length∧i= .int .i64 k∧∃q,wr=w.drewN q) (fun i _=>xs.length-(intOf i).toNat)
 case atStart=>exact⟨0,Nat.zero_le _,rfl,0,rfl⟩
 case round=>
  obtain⟨k,hk,rfl,q,rfl⟩:=hrel
  by_cases hlt:k<xs.length
  ·obtain⟨b,off,rfl,hbl,hx⟩:=hA (by omega)
   obtain⟨cs,rfl,_,hcs⟩:=hx k hlt
   have h0:=hcs 0 _ rfl
   obtain⟨b',off',rfl,hbl',hx'⟩:=hA' (by omega)
   obtain⟨cs',rfl,_,hcs'⟩:=hx' k hlt
   have h0':=hcs' 0 _ rfl
   simp only[Nat.add_zero,Nat.mul_one]at h0 h0'
   clear hx hcs hx' hcs' hA hA' hs hu
   go_wp2_with fail
   go_quiet (fail)
   go_wp2_with fail
   go_roundw
   case rel=>exact⟨k+1,by omega,by go_num,_,rfl⟩
   case measure=>simp[intOf];omega
  ·go_wp2_with fail
   go_ret
   exact⟨rfl,by exact Xt⟩
theorem X2r(V U:Value)(xs:List Bnd)(w:World)(hs:Sl w 3 RBnd V xs)(hu:Sl w 3 RBnd U xs):
  Calls Tryz.prog 74 #[V,U] w fun e w'=>e= .returned (.bool true)∧Ext w w':=by
 obtain⟨A,c,rfl⟩:=hs.form
 obtain⟨_,hc1,hc2,hA⟩:=hs.at
 obtain⟨A',c',rfl⟩:=hu.form
 obtain⟨_,hc1',hc2',hA'⟩:=hu.at
 go_enter Tryz.func74,Tryz.ntmps74
 go_wp2_with fail
 go_loopw [5] (fun i wr=>∃k:Nat,k≤xs.length∧i= .int .i64 k∧∃q,wr=w.drewN q) (fun i _=>xs.length-(intOf i).toNat)
 case atStart=>exact⟨0,Nat.zero_le _,rfl,0,rfl⟩
 case round=>
  obtain⟨k,hk,rfl,q,rfl⟩:=hrel
  by_cases hlt:k<xs.length
  ·obtain⟨b,off,rfl,hbl,hx⟩:=hA (by omega)
   obtain⟨cs,rfl,_,hcs⟩:=hx k hlt
   have h0:=hcs 0 _ rfl
   have h1:=hcs 1 _ rfl
   have h2:=hcs 2 _ rfl
   obtain⟨b',off',rfl,hbl',hx'⟩:=hA' (by omega)
   obtain⟨cs',rfl,_,hcs'⟩:=hx' k hlt
   have h0':=hcs' 0 _ rfl
   have h1':=hcs' 1 _ rfl
   have h2':=hcs' 2 _ rfl
   simp only[Nat.add_zero]at h0 h0'
   clear hx hcs hx' hcs' hA hA' hs hu
   go_wp2_with fail
   go_quiet (fail)
   go_wp2_with fail
   go_roundw
   case rel=>exact⟨k+1,by omega,by go_num,_,rfl⟩
   case measure=>simp[intOf];omega
  ·go_wp2_with fail
   go_ret
   exact⟨rfl,by exact Xt⟩
structure Pth where
 way:Int
 front:List Int
 lo:Int
 hi:Int
 cost:Int
deriving DecidableEq
def PthAt(w:World)(g:Nat)(p:Pth):Prop:=∃fv,Row1 w g 55 [.int .i64 p.way,fv,.int .i64 p.lo,.int .i64 p.hi,.int .i64 p.cost]∧Sl w 1 RI fv p.front∧
 ∀g',fv.ownBlock=some g'→∃cs,Row1 w g' 3 cs∧g≤g'
theorem PthAt.ext{W W':World}{g:Nat}{p:Pth}(h:PthAt W g p)(hb:Ext W W'):PthAt W' g p:=by
 obtain⟨fv,h1,h2,h3⟩:=h
 exact⟨fv,h1.ext hb h1.lt,h2.ext hb,fun g' e=>by obtain⟨cs,h,hle⟩:=h3 g' e;exact⟨cs,h.ext hb h.lt,hle⟩⟩
theorem Y4f{W:World}{g B:Nat}{t:TypeId}{cs:List Value}{fv:Value}(h:∀g',fv.ownBlock=some g'→∃cs,Row1 W g' 3 cs∧B≤g')(hr:Row1 W g t cs)(ht:3≠t):fv.ownBlock≠some g:=by
 intro e
 obtain⟨cs',h',_⟩:=h g e
 exact h'.apart hr ht rfl
theorem X0i{W W':World}{g B:Nat}{fv:Value}(h:∀g',fv.ownBlock=some g'→∃cs,Row1 W g' 3 cs∧B≤g')(hb:But g W W')(hne:fv.ownBlock≠some g):∀g',fv.ownBlock=some g'→∃cs,Row1 W' g' 3 cs∧B≤g':=by
 intro g' e
 obtain⟨cs,h',hle⟩:=h g' e
 exact⟨cs,h'.grown hb (fun q=>hne (by rw[e,q])),hle⟩
theorem V2o{W:World}{B B':Nat}{fv:Value}(h:∀g',fv.ownBlock=some g'→∃cs,Row1 W g' 3 cs∧B≤g')(hB:B'≤B):∀g',fv.ownBlock=some g'→∃cs,Row1 W g' 3 cs∧B'≤g':=fun g' e=>by
 obtain⟨cs,q1,q2⟩:=h g' e
 exact⟨cs,q1,Nat.le_trans hB q2⟩
def tryP(way:Int)(f:Bnd)(gs:List Grp)(next:Bnd)(p:Pth):Pth:=
 if f.lo=f.hi∧cntL f.lo gs<p.cost then⟨way,[f.lo],next.lo,next.hi,cntL f.lo gs⟩else p
theorem Z5y(way:Int)(f next:Bnd)(V:Value)(gs:List Grp)(g:Nat)(p:Pth)(w:World)(hs:Sl w 2 RG V gs)(hr:Y4x gs)(hn:gs.length≤1000000000)(hp:PthAt w g p):
  Calls Tryz.prog 77 #[.int .i64 way,.agg #[.string f.field,.int .i64 f.lo,.int .i64 f.hi],V,.agg #[.string next.field,.int .i64 next.lo,.int .i64 next.hi],.pointer (some ⟨g,0,none⟩)] w
   fun e w'=>e= .returned (.tuple #[])∧PthAt w' g (tryP way f gs next p)∧But g w w':=by
 have HP:=hD hp
 obtain⟨fv,hrow,_,_⟩:=hp
 have hgl:=hrow.lt
 have hc4:=hrow.cell 4
 have hc0:=hrow.cell 0
 have hc1:=hrow.cell 1
 have hc2:=hrow.cell 2
 have hc3:=hrow.cell 3
 have hs0:=hrow.soft 0
 have hs1:=hrow.soft 1
 have hs2:=hrow.soft 2
 have hs3:=hrow.soft 3
 have hs4:=hrow.soft 4
 simp at hc0 hc1 hc2 hc3 hc4
 have HROW:=hD hrow
 have HS:=hD hs
 have HR:=hD hr
 clear hrow hs hr
 go_enter Tryz.func77,Tryz.ntmps77
 go_wp2_with fail
 refine(Y1m _ _ _ _).mono ?_
 rintro e w1 ⟨rfl,hb1⟩
 obtain⟨hcl,hfl⟩:=U1k hb1
 have hsz:=hb1.size
 simp at hsz
 have HB1:=hD (Ext.trans (by exact Xt:Ext w _) hb1)
 clear hb1
 have hz0:w.heap.size<w1.heap.size:=by omega
 have hz1:w.heap.size+1<w1.heap.size:=by omega
 have hgl1:g<w1.heap.size:=by omega
 by_cases heq:f.lo=f.hi
 ·have hq:(f.lo==f.hi)=true:=by simpa using heq
  have HEQ:=hD heq
  clear heq
  go_wp2_with fail
  refine(Y7b _ gs _ _ (HS.out.ext HB1.out) HR.out hn).mono ?_
  rintro e w2 ⟨rfl,hb2⟩
  have he1:w2.cell? ⟨w.heap.size,1,none⟩=some (.int .i64 f.lo):=by rw[hb2.cell (by simp;omega),hcl _ _ (by simp;omega)];simp
  have he2:w2.cell? ⟨w.heap.size+1,1,none⟩=some (.int .i64 next.lo):=by rw[hb2.cell (by simp;omega),hcl _ _ (by simp)];simp
  have he3:w2.cell? ⟨w.heap.size+1,2,none⟩=some (.int .i64 next.hi):=by rw[hb2.cell (by simp;omega),hcl _ _ (by simp)];simp
  clear hcl hfl
  have hsz2:=hb2.size
  have hy0:w.heap.size<w2.heap.size:=by omega
  have hy1:w.heap.size+1<w2.heap.size:=by omega
  have hy2:g<w2.heap.size:=by omega
  have HB2:=hD (Ext.trans HB1.out hb2)
  clear hb2
  have hd4:w2.cell? ⟨g,4,none⟩=some (.int .i64 p.cost):=(HB2.out.cell hgl).trans hc4
  have hd0:w2.cell? ⟨g,0,none⟩=some (.int .i64 p.way):=(HB2.out.cell hgl).trans hc0
  have hd1:w2.cell? ⟨g,1,none⟩=some fv:=(HB2.out.cell hgl).trans hc1
  have hd2:w2.cell? ⟨g,2,none⟩=some (.int .i64 p.lo):=(HB2.out.cell hgl).trans hc2
  have hd3:w2.cell? ⟨g,3,none⟩=some (.int .i64 p.hi):=(HB2.out.cell hgl).trans hc3
  have hgs:∀i,w2.frozen? ⟨g,i,none⟩=false:=(HROW.out.ext HB2.out hgl).soft
  by_cases hlt:cntL f.lo gs<p.cost
  ·have hd:decide (cntL f.lo gs<p.cost)=true:=by simpa using hlt
   go_wp2_with fail
   go_end0
   refine⟨rfl,?_,?_⟩
   ·rw[tryP,if_pos ⟨HEQ.out,hlt⟩]
    refine⟨.slice (some ⟨w2.heap.size,0,none⟩) 1 1,((((((HROW.out.ext HB2.out hgl).set 0 _).set 1 _).set 2 _).set 3 _).set 4 _).alloc _,?_,?_⟩
    ·refine Sl.laid (Row1.made' (by simp only[Z1f]) 3 [.int .i64 f.lo]) rfl (by omega) (by simp[maxLen]) (fun i x hi=> ?_)
     match i,hi with
     | 0,hi=>
       injection hi with hi
       subst hi
       exact⟨_,rfl,rfl,fun j u hu=>by simpa using hu⟩
    ·intro g' e
     obtain rfl:w2.heap.size=g':=by simpa [Value.ownBlock]using e
     exact⟨_,Row1.made' (by simp only[Z1f]) 3 [.int .i64 f.lo],by omega⟩
   ·(repeat' (with_reducible first | exact But.of HB2.out | exact But.refl | refine But.drewN ?_ _ | refine But.drew ?_ | refine But.setCell ?_ ?_ _ | refine But.alloc ?_ _))<;>(first | exact .inl rfl | (right;simp;done) | (right;simp;omega))
  ·have hd:decide (cntL f.lo gs<p.cost)=false:=by simpa using hlt
   go_wp2_with fail
   go_end0
   refine⟨rfl,?_,But.of HB2.out⟩
   rw[tryP,if_neg (fun h=>absurd h.2 (by omega))]
   exact HP.out.ext HB2.out
 ·have hq:(f.lo==f.hi)=false:=by simpa using heq
  go_wp2_with fail
  refine bodyPost_ret (results_none rfl _ _ _) rfl ?_
  refine⟨rfl,?_,But.of HB1.out⟩
  rw[tryP,if_neg (fun h=>heq h.1)]
  exact HP.out.ext HB1.out
end
end Go.Proofs.YtmiolpfanlpfnaaGreat
