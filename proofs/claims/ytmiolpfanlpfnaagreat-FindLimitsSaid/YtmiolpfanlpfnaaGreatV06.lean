/- find.Plan: the way by which a condition's operations are found. Conditions: that it can be read. -/
import Derived.Test.YtmiolpfanlpfnaaGreatV05
import Derived.Deep.CutBlock
set_option linter.unusedSimpArgs false
set_option linter.unusedVariables false
namespace Go.Proofs.YtmiolpfanlpfnaaGreat
open Go.RowKit
theorem V1v{α:Type}(p:α→Bool):∀(l:List α) (j:Nat) (x:α),l[j]? =some x→p x=true→(∀j' x',j'<j→l[j']? =some x'→p x'=false)→l.find? p=some x
 | [],_,_,h,_,_=>by simp at h
 | a::r,0,x,h,hp,_=>by
   obtain rfl:a=x:=by simpa using h
   rw[List.find?_cons,hp]
 | a::r,j+1,x,h,hp,hn=>by
   rw[List.find?_cons,hn 0 a (by omega) rfl]
   exact V1v p r j x (by simpa using h) hp (fun j' x' hj hx=>hn (j'+1) x' (by omega) (by simpa using hx))
theorem V1u{α:Type}{p:α→Bool}{l:List α}(h:∀(j:Nat) (x:α),l[j]? =some x→p x=false):l.find? p=none:=by
 rw[List.find?_eq_none]
 intro x hx
 obtain⟨j,hj,rfl⟩:=List.mem_iff_getElem.1 hx
 rw[h j _ (List.getElem?_eq_getElem hj)]
 decide
def Y4j(k:Nat):List UInt8:=fNames.getD k []
def fWay(k:Nat):Nat:=fWays.getD k 0
def V7v(t:ND)(k:Nat):Prop:=∀(j:Nat) (x:ND),(Z0r t)[j]? =some x→hitN (Y4j k) x=false
theorem X9j(t:ND)(k:Nat)(hk:k<4)(j:Nat)(x:ND)(hx:(Z0r t)[j]? =some x)(hh:hitN (Y4j k) x=true)(hno:∀m,m<k→V7v t m)(hj:∀j' x',j'<j→(Z0r t)[j']? =some x'→hitN (Y4j k) x'=false):Z5y t=(fWay k,[x.value]):=by
 have h1:=V1v _ _ j x hx hh hj
 have h0:∀m,m<k→(Z0r t).find? (hitN (Y4j m))=none:=fun m hm=>V1u (hno m hm)
 unfold Z5y fNames fWays
 match k,hk with
 | 0,_=>simp only[Z1d];rw[show (Z0r t).find? (hitN [105,100])=some x from h1];rfl
 | 1,_=>simp only[Z1d];rw[show (Z0r t).find? (hitN [105,100])=none from h0 0 (by omega),show(Z0r t).find? (hitN [111,98,106,101,99,116])=some x from h1];rfl
 | 2,_=>simp only[Z1d];rw[show (Z0r t).find? (hitN [105,100])=none from h0 0 (by omega),show(Z0r t).find? (hitN [111,98,106,101,99,116])=none from h0 1 (by omega),show(Z0r t).find? (hitN [112,114,111,99])=some x from h1];rfl
 | 3,_=>simp only[Z1d];rw[show (Z0r t).find? (hitN [105,100])=none from h0 0 (by omega),show(Z0r t).find? (hitN [111,98,106,101,99,116])=none from h0 1 (by omega),show(Z0r t).find? (hitN [112,114,111,99])=none from h0 2 (by omega),show(Z0r t).find? (hitN [109,101,116,104,111,100])=some x from h1];rfl
theorem V4x(t:ND)(hno:∀m,m<4→V7v t m):Z5y t=(0,[]):=by
 have h0:∀m,m<4→(Z0r t).find? (hitN (Y4j m))=none:=fun m hm=>V1u (hno m hm)
 unfold Z5y fNames fWays
 simp only[Z1d]
 rw[show (Z0r t).find? (hitN [105,100])=none from h0 0 (by omega),show(Z0r t).find? (hitN [111,98,106,101,99,116])=none from h0 1 (by omega),show(Z0r t).find? (hitN [112,114,111,99])=none from h0 2 (by omega),show(Z0r t).find? (hitN [109,101,116,104,111,100])=none from h0 3 (by omega)]
structure KidsR (w:World) (v:Value) (ks:List NCell) (t:ND):Prop where
 sl:Sl w 5 RN v ks
 len:ks.length=(Z0r t).length
 same:∀(i:Nat) (x:ND) (y:NCell),(Z0r t)[i]? =some x→ks[i]? =some y→y.kind=x.kind∧y.field=x.field∧y.sign=x.sign∧y.value=x.value
theorem KidsR.ext{w w':World}{v:Value}{ks:List NCell}{t:ND}(h:KidsR w v ks t)(hx:Ext w w'):KidsR w' v ks t:=⟨h.sl.ext hx,h.len,h.same⟩
def fNamesB:List ByteArray:= [⟨#[105,100]⟩,⟨#[111,98,106,101,99,116]⟩,⟨#[112,114,111,99]⟩,⟨#[109,101,116,104,111,100]⟩]
theorem X6t(k:Nat)(hk:k<4):∃b,fNamesB[k]? =some b∧b.toList=Y4j k:=by
 match k,hk with
 | 0,_=>exact⟨_,rfl,by decide +kernel⟩
 | 1,_=>exact⟨_,rfl,by decide +kernel⟩
 | 2,_=>exact⟨_,rfl,by decide +kernel⟩
 | 3,_=>exact⟨_,rfl,by decide +kernel⟩
def V2b:List Value:= [.int .i64 0,.int .i64 1,.int .i64 3,.int .i64 4]
theorem V2a(k:Nat)(hk:k<4):V2b[k]? =some (.int .i64 (fWay k:Nat)):=by
 match k,hk with
 | 0,_=>rfl
 | 1,_=>rfl
 | 2,_=>rfl
 | 3,_=>rfl
theorem X1a{w:World}{d:Nat}{t:ND}{n:NCell}(hd:Nd w d t n)(h2:n.kind=2):∃ks,KidsR w n.kids ks t:=by
 cases d with
 | zero=>exact hd.elim
 | succ d=>
   obtain⟨h1,_,_,_,ks,h5,h6,h7⟩:=hd
   have hk:Z0r t=t.kids:=by unfold Z0r;rw[if_pos (by omega)]
   refine⟨ks,h5,by rw[hk];exact h6,fun i x y hx hy=> ?_⟩
   rw[hk]at hx
   have h8:=h7 i x y hx hy
   cases d with
   | zero=>exact h8.elim
   | succ d=>exact⟨h8.1,h8.2.1,h8.2.2.1,h8.2.2.2.1⟩
theorem Y9b{w W:World}{d:Nat}{t:ND}{n:NCell}{g:Nat}{ty:TypeId}(hd:Nd w d t n)(hn:RN n n.cells)(h2:n.kind≠2)(hg:Row1 W g ty n.cells):KidsR W (.slice (some ⟨g,0,none⟩) 1 1) [n] t:=by
 cases d with
 | zero=>exact hd.elim
 | succ d=>
   obtain⟨h1,h3,h4,h5,_⟩:=hd
   have hk:Z0r t= [t]:=by unfold Z0r;rw[if_neg (by omega)]
   refine⟨Sl.laid hg rfl (Nat.le_refl _) (by decide) (fun i x hx=> ?_),by rw[hk];rfl,fun i x y hx hy=> ?_⟩
   ·match i,hx with
    | 0,hx=>
      obtain rfl:n=x:=by simpa using hx
      exact⟨n.cells,hn,rfl,fun j u hu=>by rw[Nat.zero_mul,Nat.zero_add];exact hu⟩
    | i+1,hx=>simp at hx
   ·rw[hk]at hx
    match i,hx,hy with
    | 0,hx,hy=>
      obtain rfl:t=x:=by simpa using hx
      obtain rfl:n=y:=by simpa using hy
      exact⟨h1,h3,h4,h5⟩
    | i+1,hx,hy=>simp at hx
end Go.Proofs.YtmiolpfanlpfnaaGreat
