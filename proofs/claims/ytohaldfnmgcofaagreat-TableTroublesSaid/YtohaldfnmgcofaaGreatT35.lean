/- cmp.Compare at numbers. No conditions. -/
import Derived.Test.YtohaldfnmgcofaaGreatT01
import Derived.Shelf.SlSortCmp.WholeK
set_option linter.unusedSimpArgs false
set_option linter.unusedVariables false
namespace Go.Proofs.YtohaldfnmgcofaaGreat
section
open Go.RowKit
theorem V2v(x:Int)(w:World):cQ 207 #[.int .i64 x] w fun e w'=>e= .returned (.bool false)/\w=w':=by go_enter Tryz.func207,Tryz.ntmps207;go_wp2;go_ret;exact⟨by simp,rfl⟩
def cmpI(x y:Int):Int:=if x<y then -1 else if y<x then 1 else 0
theorem Y5q(x y:Int)(w:World):cQ 174 #[.int .i64 x,.int .i64 y] w fun e w'=>e= .returned (.int .i64 (cmpI x y))/\w=w':=by
 go_enter Tryz.func174,Tryz.ntmps174;go_wp2_with (go_at_call 207;refine(V2v _ _).mono ?_;rintro e w' ⟨rfl,rfl⟩)
 all_goals (go_ret;refine⟨?_,rfl⟩;simp[cmpI];try omega)
end
section
open Go.RowKit Go.Sort Go.Shelf Go.Proofs
section
variable {α:Type} [Inhabited α]
theorem Y8o{w:World}{base k n cap g:Nat}{e:TypeId}{enc:α->List Value}(hk:∀x,(enc x).length=k){xs:List α}(h:w.ownsRow base e k (.slice (some ⟨g,0,none⟩) n cap) n (xs.flatMap enc)):HoldsK enc k w g 0 xs.toArray:=by
 intro j hj;rw[size_flatK]at hj;simp only[List.size_toArray]at hj;obtain⟨A,c,he,_,_,hx⟩:=Z3c h;injection he with he _ hc;have k0:0<k:=by rcases Nat.eq_zero_or_pos k with e | e;(subst e;omega);exact e
 have hi:j/k<xs.length:=Nat.div_lt_of_lt_mul (by rw[Nat.mul_comm];exact hj);have hm:j%k<k:=Nat.mod_lt _ k0;have hn:0<n:=by
  have h1:=h.1;rw[Z3i enc k hk]at h1;rcases Nat.eq_zero_or_pos n with e | e
  ·subst e;omega
  ·exact e
 obtain⟨g',e',_,_,hf,hc⟩:=hx hn;rw[<-he]at e';injection e' with e';injection e' with e';subst e';rw[Nat.zero_add];refine⟨?_,hf j⟩;rw[get_flatK _ _ _ _ (by simpa using hj)];have hv:(enc xs[j/k])[j%k]? =some ((enc xs[j/k])[j%k]'(by rw[hk];exact hm)):=aB _;have h1:=Z3j enc k hk xs (j/k) _ (aB hi) (j%k) _ hv;have hd:j/k*k+j%k=j:=by rw[Nat.mul_comm];exact Nat.div_add_mod j k
 rw[hd]at h1;rw[hc j _ h1];simp[hi,hk,hm]
theorem Y9t{w:World}{k n cap g:Nat}{enc:α->List Value}{R:α->List Value->Prop}(hk:∀x,(enc x).length=k)(hR:∀x,R x (enc x)){d:Array α}(h:HoldsK enc k w g 0 d)(hn:n=d.size)(hc:n<=cap)(hm:cap<=maxLen)(hg:g<w.heap.size):Sl w k R (.slice (some ⟨g,0,none⟩) n cap) d.toList:=by
 subst hn;refine⟨_,cap,by simp,by simpa using hc,hm,fun _=>⟨g,0,rfl,hg,fun i x hi=>⟨enc x,hR x,hk x,fun j u hu=> ?_⟩⟩⟩;obtain⟨hi',rfl⟩:=aC.1 hi;have hj:j<k:=by rw[<-hk];exact(aC.1 hu).1
 have hi2:i<d.size:=by simpa using hi'
 rw[(h.cell hi2 hj).1];have e:d[i]! =d.toList[i]:=by simp[hi2]
 rw[e];obtain⟨hj',e2⟩:=aC.1 hu;rw[getElem!_pos _ j hj',e2]
theorem Y8q{w:World}{g m:Nat}{os:Array Obj}{k:Nat}{enc:α->List Value}(d:Array α):w.grownBy (sortWorldK enc k w g 0 m d os) (some g):=by refine⟨rfl,rfl,rfl,by simp[sortWorldK,putRowK],fun b hb hne=> ?_⟩;unfold sortWorldK;rw[heap_grow_old _ _ (by simpa [putRowK]using hb)];have:g≠b:=fun e=>hne (by rw[e]);simp[putRowK,putRow,mapBlock,Sort.ahead,Array.getElem?_modify,this]
theorem X2h{d d':Array α}(h:PermIn 0 d.size d d'):d'.toList.Perm d.toList:=by
 obtain⟨h1,_,h2⟩:=h;have e1:d'.extract 0 d.size=d':=by rw[<-h1];simp
 have e2:d.extract 0 d.size=d:=by simp
 rwa [e1,e2]at h2
theorem Y1b{lt:α->α->Bool}{d:Array α}{n:Nat}(hn:n=d.size)(h:SortedIn lt 0 n d):d.toList.Pairwise (fun a b=>lt b a=false):=by subst hn;rw[List.pairwise_iff_getElem];intro i j hi hj hij;have:=h i j (Nat.zero_le _) hij (by simpa using hj);simp only[Array.length_toList]at hi hj;simpa [hi,hj]using this
end
end
end Go.Proofs.YtohaldfnmgcofaaGreat
