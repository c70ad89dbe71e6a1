/- cmp.Compare at numbers. No conditions. -/
import Derived.Shelf.SlSortCmp.WholeK
import Derived.Test.YtmiolpfanlpfnaaGreatV05
set_option maxRecDepth 100000
set_option maxHeartbeats 2000000
set_option linter.unusedSimpArgs false
set_option linter.unusedVariables false
namespace Go.Proofs.YtmiolpfanlpfnaaGreat
section
open Go.RowKit
theorem V0s(x:Int)(w:World):Calls Tryz.prog 196 #[.int .i64 x] w fun e w'=>e= .returned (.bool false)∧w=w':=by
 go_enter Tryz.func196,Tryz.ntmps196
 go_wp2
 go_ret
 exact⟨by simp,rfl⟩
def cmpI(x y:Int):Int:=if x<y then -1 else if y<x then 1 else 0
theorem Z7s(x y:Int)(w:World):Calls Tryz.prog 139 #[.int .i64 x,.int .i64 y] w fun e w'=>e= .returned (.int .i64 (cmpI x y))∧w=w':=by
 go_enter Tryz.func139,Tryz.ntmps139
 go_wp2_with (go_at_call 196;refine(V0s _ _).mono ?_;rintro e w' ⟨rfl,rfl⟩)
 all_goals (go_ret;refine⟨?_,rfl⟩;simp[cmpI];try omega)
end
section
open Go.RowKit Go.Sort Go.Shelf Go.Proofs
section
variable {α:Type} [Inhabited α]
theorem Y7k{w:World}{base k n cap g:Nat}{e:TypeId}{enc:α→List Value}(hk:∀x,(enc x).length=k){xs:List α}(h:w.ownsRow base e k (.slice (some ⟨g,0,none⟩) n cap) n (xs.flatMap enc)):HoldsK enc k w g 0 xs.toArray:=by
 intro j hj
 rw[size_flatK]at hj
 simp only[List.size_toArray]at hj
 obtain⟨A,c,he,_,_,hx⟩:=Z2r h
 injection he with he _ hc
 have k0:0<k:=by rcases Nat.eq_zero_or_pos k with e | e;(subst e;omega);exact e
 have hi:j/k<xs.length:=Nat.div_lt_of_lt_mul (by rw[Nat.mul_comm];exact hj)
 have hm:j%k<k:=Nat.mod_lt _ k0
 have hn:0<n:=by
  have h1:=h.1
  rw[Z3y enc k hk]at h1
  rcases Nat.eq_zero_or_pos n with e | e
  ·subst e;omega
  ·exact e
 obtain⟨g',e',_,_,hf,hc⟩:=hx hn
 rw[←he]at e'
 injection e' with e'
 injection e' with e'
 subst e'
 rw[Nat.zero_add]
 refine⟨?_,hf j⟩
 rw[get_flatK _ _ _ _ (by simpa using hj)]
 have hv:(enc xs[j/k])[j%k]? =some ((enc xs[j/k])[j%k]'(by rw[hk];exact hm)):=List.getElem?_eq_getElem _
 have h1:=Z3f enc k hk xs (j/k) _ (List.getElem?_eq_getElem hi) (j%k) _ hv
 have hd:j/k*k+j%k=j:=by rw[Nat.mul_comm];exact Nat.div_add_mod j k
 rw[hd]at h1
 rw[hc j _ h1]
 simp[hi,hk,hm]
theorem Y8m{w:World}{k n cap g:Nat}{enc:α→List Value}{R:α→List Value→Prop}(hk:∀x,(enc x).length=k)(hR:∀x,R x (enc x)){d:Array α}(h:HoldsK enc k w g 0 d)(hn:n=d.size)(hc:n≤cap)(hm:cap≤maxLen)(hg:g<w.heap.size):Sl w k R (.slice (some ⟨g,0,none⟩) n cap) d.toList:=by
 subst hn
 refine⟨_,cap,by simp,by simpa using hc,hm,fun _=>⟨g,0,rfl,hg,fun i x hi=>⟨enc x,hR x,hk x,fun j u hu=> ?_⟩⟩⟩
 obtain⟨hi',rfl⟩:=List.getElem?_eq_some_iff.1 hi
 have hj:j<k:=by rw[←hk];exact(List.getElem?_eq_some_iff.1 hu).1
 have hi2:i<d.size:=by simpa using hi'
 rw[(h.cell hi2 hj).1]
 have e:d[i]! =d.toList[i]:=by simp[hi2]
 rw[e]
 obtain⟨hj',e2⟩:=List.getElem?_eq_some_iff.1 hu
 rw[getElem!_pos _ j hj',e2]
theorem Z8y{w:World}{g m:Nat}{os:Array Obj}{k:Nat}{enc:α→List Value}(d:Array α):w.grownBy (sortWorldK enc k w g 0 m d os) (some g):=by
 refine⟨rfl,rfl,rfl,by simp[sortWorldK,putRowK],fun b hb hne=> ?_⟩
 unfold sortWorldK
 rw[heap_grow_old _ _ (by simpa [putRowK]using hb)]
 have:g≠b:=fun e=>hne (by rw[e])
 simp[putRowK,putRow,mapBlock,Sort.ahead,Array.getElem?_modify,this]
theorem X1c{d d':Array α}(h:PermIn 0 d.size d d'):d'.toList.Perm d.toList:=by
 obtain⟨h1,_,h2⟩:=h
 have e1:d'.extract 0 d.size=d':=by rw[←h1];simp
 have e2:d.extract 0 d.size=d:=by simp
 rwa [e1,e2]at h2
theorem Z9s{lt:α→α→Bool}{d:Array α}{n:Nat}(hn:n=d.size)(h:SortedIn lt 0 n d):d.toList.Pairwise (fun a b=>lt b a=false):=by
 subst hn
 rw[List.pairwise_iff_getElem]
 intro i j hi hj hij
 have:=h i j (Nat.zero_le _) hij (by simpa using hj)
 simp only[Array.length_toList]at hi hj
 simpa [hi,hj]using this
end
def Grew(w w':World):Prop:=∃q os',w'=grow (w.drewN q) os'
theorem Grew.refl(w:World):Grew w w:=⟨0,#[],by simp[World.drewN]⟩
theorem Grew.alloc{a w:World}(h:Grew a w)(o:Obj):Grew a (w.alloc o):=by
 obtain⟨q,os,rfl⟩:=h
 exact⟨q,os++#[o],by rw[alloc_eq_grow,grow_grow]⟩
theorem Grew.drew{a w:World}(h:Grew a w):Grew a w.drew:=by
 obtain⟨q,os,rfl⟩:=h
 exact⟨q+1,os,rfl⟩
theorem Grew.drewN{a w:World}(h:Grew a w)(n:Nat):Grew a (w.drewN n):=by
 obtain⟨q,os,rfl⟩:=h
 exact⟨q+n,os,by simp[grow,World.drewN,Nat.add_assoc]⟩
end
section
open Go.RowKit
def Z0u(f:ByteArray)(o:OpD):Int:=(Z1f o f).getD 0
def Z0z(ord:ByteArray)(down:Bool)(a b:OpD):Bool:=if Z0u ord a=Z0u ord b then decide (a.id<b.id)else decide (Z0u ord a<Z0u ord b)!=down
theorem Y8r(n:NCell)(nA:Option Addr)(nm nc:Nat)(hn:n.kids= .slice nA nm nc)(ord:ByteArray)(down:Bool)(limit:Int)(count:Bool)(a b:OpD)(w:World):
  Calls Tryz.prog 92 #[.agg #[.int .i64 n.kind,n.kids,.string n.field,.string n.sign,.int .i64 n.value,.string ord,.bool down,.int .i64 limit,.bool count],a.val,b.val] w fun e w'=>e= .returned (.bool (Z0z ord down a b))∧Ext w w':=by
 obtain⟨nk,nkids,nf,ns,nv⟩:=n
 dsimp only at *
 subst hn
 obtain⟨x,hx⟩:∃x,Z0u ord a=x:=⟨_,rfl⟩
 obtain⟨y,hy⟩:∃y,Z0u ord b=y:=⟨_,rfl⟩
 have HG:Hid (Z0z ord down a b=if x=y then decide (a.id<b.id)else decide (x<y)!=down):=by unfold Hid Z0z;rw[hx,hy]
 have HX:Hid ((Z1f a ord).getD 0=x):=hx
 have HY:Hid ((Z1f b ord).getD 0=y):=hy
 clear hx hy
 have HQ:Hid (Ext w (((w.alloc (.cells #[.int .i64 nk,.slice nA nm nc,.string nf,.string ns,.int .i64 nv,.string ord,.bool down,.int .i64 limit,.bool count] 69)).alloc (.cells #[.int .i64 a.id,.int .i64 a.proc,.int .i64 a.object,.int .i64 a.kind,.int .i64 a.method,.int .i64 a.arg,.int .i64 a.second,.bool a.done,.int .i64 a.result,.int .i64 a.invoke,.int .i64 a.ret] 32)).alloc (.cells #[.int .i64 b.id,.int .i64 b.proc,.int .i64 b.object,.int .i64 b.kind,.int .i64 b.method,.int .i64 b.arg,.int .i64 b.second,.bool b.done,.int .i64 b.result,.int .i64 b.invoke,.int .i64 b.ret] 32))):=by unfold Hid;exact Xt
 have HKS:Hid (∀W:World,Ext (((w.alloc (.cells #[.int .i64 nk,.slice nA nm nc,.string nf,.string ns,.int .i64 nv,.string ord,.bool down,.int .i64 limit,.bool count] 69)).alloc (.cells #[.int .i64 a.id,.int .i64 a.proc,.int .i64 a.object,.int .i64 a.kind,.int .i64 a.method,.int .i64 a.arg,.int .i64 a.second,.bool a.done,.int .i64 a.result,.int .i64 a.invoke,.int .i64 a.ret] 32)).alloc (.cells #[.int .i64 b.id,.int .i64 b.proc,.int .i64 b.object,.int .i64 b.kind,.int .i64 b.method,.int .i64 b.arg,.int .i64 b.second,.bool b.done,.int .i64 b.result,.int .i64 b.invoke,.int .i64 b.ret] 32)) W→
   W.cell? ⟨w.heap.size,5,none⟩=some (.string ord)∧W.cell? ⟨w.heap.size,6,none⟩=some (.bool down)∧At11 W (w.heap.size+1) a∧At11 W (w.heap.size+1+1) b):=by
  intro W hb
  have h1:=(At11.row (Row1.made' (w:=w.alloc (.cells #[.int .i64 nk,.slice nA nm nc,.string nf,.string ns,.int .i64 nv,.string ord,.bool down,.int .i64 limit,.bool count] 69)) (n:=w.heap.size+1) (by simp) 32 a.cells)).ext (Ext.alloc _ (.cells b.cells.toArray 32)) (by simp)
  have h2:=At11.row (Row1.made' (w:=(w.alloc (.cells #[.int .i64 nk,.slice nA nm nc,.string nf,.string ns,.int .i64 nv,.string ord,.bool down,.int .i64 limit,.bool count] 69)).alloc (.cells #[.int .i64 a.id,.int .i64 a.proc,.int .i64 a.object,.int .i64 a.kind,.int .i64 a.method,.int .i64 a.arg,.int .i64 a.second,.bool a.done,.int .i64 a.result,.int .i64 a.invoke,.int .i64 a.ret] 32)) (n:=w.heap.size+1+1) (by simp) 32 b.cells)
  exact⟨by rw[hb.cell (by first | (simp;done) | (simp;omega) | omega)];go_simp,by rw[hb.cell (by first | (simp;done) | (simp;omega) | omega)];go_simp,h1.ext hb (by first | (simp;done) | (simp;omega) | omega),h2.ext hb (by first | (simp;done) | (simp;omega) | omega)⟩
 go_enter Tryz.func92,Tryz.ntmps92
 go_wp2_with fail
 refine(Z2n a ord _).mono ?_
 rintro e w1 ⟨rfl,hb1⟩
 rw[HX.out]
 generalize (Z1f a ord).isSome=okx
 obtain⟨c5,c6,⟨a0,a1,a2,a3,a4,a5,a6,a7,a8,a9,a10⟩,b0,b1,b2,b3,b4,b5,b6,b7,b8,b9,b10⟩:=HKS.out _ hb1
 have K1:=hD hb1
 clear hb1
 go_wp2_with fail
 refine(Z2n b ord _).mono ?_
 rintro e w2 ⟨rfl,hb2⟩
 rw[HY.out]
 generalize (Z1f b ord).isSome=oky
 have K2:=hD (Ext.trans K1.out hb2)
 clear hb2 c5 c6 a0 a1 a2 a3 a4 a5 a6 a7 a8 a9 a10 b0 b1 b2 b3 b4 b5 b6 b7 b8 b9 b10
 obtain⟨c5,c6,⟨a0,a1,a2,a3,a4,a5,a6,a7,a8,a9,a10⟩,b0,b1,b2,b3,b4,b5,b6,b7,b8,b9,b10⟩:=HKS.out _ K2.out
 by_cases hxy:x=y
 ·have q1:(x !=y)=false:=by simpa using hxy
  rw[if_pos hxy]at HG
  clear hxy
  go_wp2_with fail
  go_ret
  exact⟨by rw[HG.out];rfl,Ext.trans HQ.out K2.out⟩
 ·have q1:(x !=y)=true:=by simpa using hxy
  rw[if_neg hxy]at HG
  clear hxy
  go_wp2_with fail
  go_ret
  exact⟨by rw[HG.out];rfl,Ext.trans HQ.out K2.out⟩
def insO(ord:ByteArray)(down:Bool)(o:OpD):List OpD→List OpD
 | []=> [o]
 | x::r=>if Z0z ord down x o then x::insO ord down o r else o::x::r
theorem X1n(ord:ByteArray)(down:Bool)(o:OpD):∀(xs:List OpD) (p:Nat) (hp:p≤xs.length),(∀j (hj:j<p),Z0z ord down (xs[j]'(by omega)) o=true)→(∀h:p<xs.length,Z0z ord down xs[p] o=false)→insO ord down o xs=xs.take p++ [o]++xs.drop p
 | [],p,hp,_,_=>by
   obtain rfl:p=0:=by simpa using hp
   rfl
 | x::r,0,_,_,h2=>by
   have:Z0z ord down x o=false:=h2 (by simp)
   simp[insO,this]
 | x::r,p+1,hp,h1,h2=>by
   have h0:Z0z ord down x o=true:=h1 0 (by omega)
   have ih:=X1n ord down o r p (by simpa using hp) (fun j hj=>h1 (j+1) (by omega)) (fun h=>h2 (by simpa using h))
   simp[insO,h0,ih]
theorem X3p(ord:ByteArray)(down:Bool)(o:OpD):∀xs:List OpD,(insO ord down o xs).length=xs.length+1
 | []=>rfl
 | x::r=>by
   unfold insO
   split
   ·simp[X3p ord down o r]
   ·simp
def Z2q(ord:ByteArray)(down:Bool)(l0:List OpD)(t:ND)(out:List OpD)(o:OpD):List OpD:=if Z0n l0 o t then insO ord down o out else out
def runL(ord:ByteArray)(down:Bool)(l0:List OpD)(t:ND)(l:List OpD):List OpD:=l.foldl (Z2q ord down l0 t) []
theorem X2r(ord:ByteArray)(down:Bool)(l0:List OpD)(t:ND)(l:List OpD)(k:Nat)(h:k<l.length):runL ord down l0 t (l.take (k+1))=Z2q ord down l0 t (runL ord down l0 t (l.take k)) l[k]:=by
 unfold runL
 rw[List.take_succ_eq_append_getElem h,List.foldl_append]
 rfl
theorem X8p(ord:ByteArray)(down:Bool)(l0:List OpD)(t:ND)(l:List OpD)(k:Nat)(h:k≤l.length):(runL ord down l0 t (l.take k)).length≤k:=by
 induction k with
 | zero=>simp[runL]
 | succ k ih=>
   rw[X2r ord down l0 t l k (by omega)]
   have:=ih (by omega)
   unfold Z2q
   split
   ·rw[X3p];omega
   ·omega
def cutL(limit:Int)(l:List OpD):List OpD:=if 0≤limit∧limit<l.length then l.take limit.toNat else l
end
section
open Go.RowKit Go.Sort Go.Shelf Go.Proofs
theorem Z3l(o:OpD)(f:ByteArray)(w:World):
  Calls Tryz.prog 40 #[o.val,.string f] w fun e w'=>e= .returned (.tuple #[.int .i64 ((Z1f o f).getD 0),.bool (Z1f o f).isSome])∧w'=w.alloc (.cells #[.int .i64 o.id,.int .i64 o.proc,.int .i64 o.object,.int .i64 o.kind,.int .i64 o.method,.int .i64 o.arg,.int .i64 o.second,.bool o.done,.int .i64 o.result,.int .i64 o.invoke,.int .i64 o.ret] 32):=by
 have HV:=hD (Z9o o f)
 cases hd:o.done with
 | true=>
   have HD:=hD (show Y0q o=1 by simp[Y0q,hd])
   have HDD:=hD hd
   go_enter Tryz.func40,Tryz.ntmps40
   go_wp2
   all_goals (go_ret2)
   all_goals (refine ⟨?_,rfl⟩)
   all_goals go_light
   all_goals (rw [HV.out])
   all_goals (try rw[HD.out])
   all_goals (try simp only[beq_iff_eq,beq_eq_false_iff_ne,ne_eq]at *)
   all_goals (simp [*];done)
 | false=>
   have HD:=hD (show Y0q o=0 by simp[Y0q,hd])
   have HDD:=hD hd
   go_enter Tryz.func40,Tryz.ntmps40
   go_wp2
   all_goals (go_ret2)
   all_goals (refine ⟨?_,rfl⟩)
   all_goals go_light
   all_goals (rw [HV.out])
   all_goals (try rw[HD.out])
   all_goals (try simp only[beq_iff_eq,beq_eq_false_iff_ne,ne_eq]at *)
   all_goals (simp [*];done)
def orI(x y:Int):Int:=if x=0 then y else x
theorem X0c(g:Nat)(c:Nat)(x y:Int)(w:World)(h0:w.cell? ⟨g,0,none⟩=some (.int .i64 x))(h1:w.cell? ⟨g,1,none⟩=some (.int .i64 y)):
  Calls Tryz.prog 145 #[.slice (some ⟨g,0,none⟩) 2 c] w fun e w'=>e= .returned (.int .i64 (orI x y))∧w'=w:=by
 unfold orI
 by_cases hx:x=0
 ·subst hx
  by_cases hy:y=0
  ·subst hy
   go_enter Tryz.func145,Tryz.ntmps145
   go_wp2
   go_loop [8] (fun i=>i= .int .i64 0∨i= .int .i64 1∨i= .int .i64 2) (fun i=>2-(intOf i).toNat)
   case atStart=>exact .inl rfl
   case round=>
    rcases hrel with rfl | rfl | rfl
    ·go_wp2
     go_round
     case rel=>exact .inr (.inl rfl)
     case measure=>simp[intOf]
    ·go_wp2
     go_round
     case rel=>exact .inr (.inr rfl)
     case measure=>simp[intOf]
    ·go_wp2
     go_ret
     exact⟨rfl,rfl⟩
  ·have q:(y==0)=false:=by simpa using hy
   have q':(y !=0)=true:=by simpa using hy
   go_enter Tryz.func145,Tryz.ntmps145
   go_wp2
   go_loop [8] (fun i=>i= .int .i64 0∨i= .int .i64 1) (fun i=>2-(intOf i).toNat)
   case atStart=>exact .inl rfl
   case round=>
    rcases hrel with rfl | rfl
    ·go_wp2
     go_round
     case rel=>exact .inr rfl
     case measure=>simp[intOf]
    ·go_wp2
     go_ret
     exact⟨rfl,rfl⟩
 ·have q:(x==0)=false:=by simpa using hx
  have q':(x !=0)=true:=by simpa using hx
  rw[if_neg hx]
  clear hx
  go_enter Tryz.func145,Tryz.ntmps145
  go_wp2
  go_loop [8] (fun i=>i= .int .i64 0) (fun i=>2-(intOf i).toNat)
  case atStart=>rfl
  case round=>
   obtain rfl:=hrel
   go_wp2
   go_ret
   exact⟨rfl,rfl⟩
def cmpO(ord:ByteArray)(down:Bool)(a b:OpD):Int:=
 if(if down then cmpI (Z0u ord b) (Z0u ord a)else cmpI (Z0u ord a) (Z0u ord b))=0 then cmpI a.id b.id else(if down then cmpI (Z0u ord b) (Z0u ord a)else cmpI (Z0u ord a) (Z0u ord b))
theorem ltO(ord:ByteArray)(down:Bool)(x y:OpD):ltOf (cmpO ord down) x y=Z0z ord down x y:=by
 unfold ltOf cmpO Z0z cmpI
 generalize Z0u ord x=a
 generalize Z0u ord y=b
 cases down
 ·by_cases h1:a<b
  ·have h2:¬a=b:=by omega
   simp[h1,h2]
  ·by_cases h2:b<a
   ·have h3:¬a=b:=by omega
    simp[h1,h2,h3]
   ·have h3:a=b:=by omega
    subst h3
    by_cases h4:x.id<y.id
    ·simp[h4]
    ·by_cases h5:y.id<x.id<;>simp[h4,h5]
 ·by_cases h1:b<a
  ·have h2:¬a=b:=by omega
   have h3:¬a<b:=by omega
   simp[h1,h2,h3]
  ·by_cases h2:a<b
   ·have h3:¬a=b:=by omega
    simp[h1,h2,h3]
   ·have h3:a=b:=by omega
    subst h3
    by_cases h4:x.id<y.id
    ·simp[h4]
    ·by_cases h5:y.id<x.id<;>simp[h4,h5]
theorem swoO(ord:ByteArray)(down:Bool):SWO (ltOf (cmpO ord down)) where
 irrefl x:=by rw[ltO];unfold Z0z;simp
 trans x y z h1 h2:=by
  rw[ltO]at *
  unfold Z0z at *
  generalize Z0u ord x=a at *
  generalize Z0u ord y=b at *
  generalize Z0u ord z=c at *
  cases down<;>simp at * <;>(repeat' split at *)<;>(try simp at *)<;>omega
 ntrans x y z h1 h2:=by
  rw[ltO]at *
  unfold Z0z at *
  generalize Z0u ord x=a at *
  generalize Z0u ord y=b at *
  generalize Z0u ord z=c at *
  cases down<;>simp at * <;>(repeat' split at *)<;>(try simp at *)<;>omega
theorem Y6k(a b:OpD)(qb:Nat)(ord:ByteArray)(down:Bool)(w:World)(h5:w.cell? ⟨qb,5,none⟩=some (.string ord))(h6:w.cell? ⟨qb,6,none⟩=some (.bool down)):
  Calls Tryz.prog 144 #[.agg a.cells.toArray,.agg b.cells.toArray,.pointer (some ⟨qb,0,none⟩)] w fun e w'=>e= .returned (.int .i64 (cmpO ord down a b))∧Grew w w':=by
 show Calls Tryz.prog 144 #[.agg #[.int .i64 a.id,.int .i64 a.proc,.int .i64 a.object,.int .i64 a.kind,.int .i64 a.method,.int .i64 a.arg,.int .i64 a.second,.bool a.done,.int .i64 a.result,.int .i64 a.invoke,.int .i64 a.ret],.agg #[.int .i64 b.id,.int .i64 b.proc,.int .i64 b.object,.int .i64 b.kind,.int .i64 b.method,.int .i64 b.arg,.int .i64 b.second,.bool b.done,.int .i64 b.result,.int .i64 b.invoke,.int .i64 b.ret],.pointer (some ⟨qb,0,none⟩)] w _
 obtain⟨x,hx⟩:∃x,Z0u ord a=x:=⟨_,rfl⟩
 obtain⟨y,hy⟩:∃y,Z0u ord b=y:=⟨_,rfl⟩
 have HX:Hid ((Z1f a ord).getD 0=x):=hx
 have HY:Hid ((Z1f b ord).getD 0=y):=hy
 have hqb:=World.block_lt_of_cell? _ _ h5
 simp only[]at hqb
 have hqb1:qb<w.heap.size+1:=by omega
 have hqb2:qb<w.heap.size+1+1:=by omega
 have hqb3:qb<w.heap.size+1+1+1:=by omega
 have HKS:Hid (∀W:World,Ext ((w.alloc (.cells #[.int .i64 a.id,.int .i64 a.proc,.int .i64 a.object,.int .i64 a.kind,.int .i64 a.method,.int .i64 a.arg,.int .i64 a.second,.bool a.done,.int .i64 a.result,.int .i64 a.invoke,.int .i64 a.ret] 32)).alloc (.cells #[.int .i64 b.id,.int .i64 b.proc,.int .i64 b.object,.int .i64 b.kind,.int .i64 b.method,.int .i64 b.arg,.int .i64 b.second,.bool b.done,.int .i64 b.result,.int .i64 b.invoke,.int .i64 b.ret] 32)) W→W.cell? ⟨w.heap.size,0,none⟩=some (.int .i64 a.id)∧W.cell? ⟨w.heap.size+1,0,none⟩=some (.int .i64 b.id)):=
  fun W hb=>⟨by rw[hb.cell (by first | (simp;done) | (simp;omega) | omega)];go_simp,by rw[hb.cell (by first | (simp;done) | (simp;omega) | omega)];go_simp⟩
 cases down with
 | false=>
   have HG:Hid (cmpO ord false a b=orI (cmpI x y) (cmpI a.id b.id)):=by unfold Hid cmpO;rw[hx,hy];rfl
   clear hx hy
   go_enter Tryz.func144,Tryz.ntmps144
   go_wp2_with fail
   refine(Z3l a ord _).mono ?_
   rintro e w1 ⟨rfl,rfl⟩
   rw[HX.out]
   generalize (Z1f a ord).isSome=okx
   go_wp2_with fail
   refine(Z3l b ord _).mono ?_
   rintro e w1 ⟨rfl,rfl⟩
   rw[HY.out]
   generalize (Z1f b ord).isSome=oky
   go_wp2_with fail
   go_region_held3 (fun w'=>w'.cell? ⟨w.heap.size,0,none⟩=some (.int .i64 a.id)∧w'.cell? ⟨w.heap.size+1,0,none⟩=some (.int .i64 b.id)) (first | (refine HKS.out _ ?_;(exact Xt);done))
    (first
      | (go_at_call 139;refine(Z7s _ _ _).mono ?_;rintro e w' ⟨rfl,rfl⟩)
      | (go_at_call 145;refine(X0c _ 2 (cmpI x y) (cmpI a.id b.id) _ (by go_simp) (by go_simp)).mono ?_;rintro e w' ⟨rfl,rfl⟩))
   all_goals
    go_wp2_with fail
    go_ret
    refine⟨by rw[HG.out];rfl,?_⟩
    repeat' (with_reducible first | exact Grew.refl _ | refine Grew.drew ?_ | refine Grew.drewN ?_ _ | refine Grew.alloc ?_ _)
 | true=>
   have HG:Hid (cmpO ord true a b=orI (cmpI y x) (cmpI a.id b.id)):=by unfold Hid cmpO;rw[hx,hy];rfl
   clear hx hy
   go_enter Tryz.func144,Tryz.ntmps144
   go_wp2_with fail
   refine(Z3l a ord _).mono ?_
   rintro e w1 ⟨rfl,rfl⟩
   rw[HX.out]
   generalize (Z1f a ord).isSome=okx
   go_wp2_with fail
   refine(Z3l b ord _).mono ?_
   rintro e w1 ⟨rfl,rfl⟩
   rw[HY.out]
   generalize (Z1f b ord).isSome=oky
   go_wp2_with fail
   go_region_held3 (fun w'=>w'.cell? ⟨w.heap.size,0,none⟩=some (.int .i64 a.id)∧w'.cell? ⟨w.heap.size+1,0,none⟩=some (.int .i64 b.id)) (first | (refine HKS.out _ ?_;(exact Xt);done))
    (first
      | (go_at_call 139;refine(Z7s _ _ _).mono ?_;rintro e w' ⟨rfl,rfl⟩)
      | (go_at_call 145;refine(X0c _ 2 (cmpI y x) (cmpI a.id b.id) _ (by go_simp) (by go_simp)).mono ?_;rintro e w' ⟨rfl,rfl⟩))
   all_goals
    go_wp2_with fail
    go_ret
    refine⟨by rw[HG.out];rfl,?_⟩
    repeat' (with_reducible first | exact Grew.refl _ | refine Grew.drew ?_ | refine Grew.drewN ?_ _ | refine Grew.alloc ?_ _)
end
end Go.Proofs.YtmiolpfanlpfnaaGreat
