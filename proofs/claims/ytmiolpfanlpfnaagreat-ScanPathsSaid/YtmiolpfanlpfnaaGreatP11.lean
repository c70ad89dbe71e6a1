/- Conditions that lie in blocks which a call leaves be; slices.ContainsFunc at conditions' kids, by a closure that may turn other memory. Conditions: that all can be read. -/
import Derived.Test.YtmiolpfanlpfnaaGreatP05
import Derived.Test.YtmiolpfanlpfnaaGreatP06
set_option linter.unusedSimpArgs false
set_option linter.unusedVariables false
namespace Go.Proofs.YtmiolpfanlpfnaaGreat
open Go.RowKit
theorem Sl.only{α:Type}{w w':World}{sz:Nat}{R:α→List Value→Prop}{v:Value}{xs:List α}{G:Nat→Prop}(h:Sl w sz R v xs)(ho:Only G w w')(hv:∀b,0<xs.length→v.ownBlock=some b→¬G b):Sl w' sz R v xs:=by
 obtain⟨A,c,rfl,h1,h2,h3⟩:=h
 refine⟨A,c,rfl,h1,h2,fun hn=> ?_⟩
 obtain⟨b,off,rfl,hb,hx⟩:=h3 hn
 refine⟨b,off,rfl,Nat.lt_of_lt_of_le hb ho.size,fun i x hi=> ?_⟩
 obtain⟨cs,hr,hl,hcs⟩:=hx i x hi
 exact⟨cs,hr,hl,fun j u hu=>(ho.cell hb (hv b hn rfl)).trans (hcs j u hu)⟩
def NdB(B:Nat→Prop)(w:World):Nat→ND→NCell→Prop
 | 0,_,_=>False
 | d+1,t,n=>n.kind=t.kind∧n.field=t.field∧n.sign=t.sign∧n.value=t.value∧∃ks:List NCell,Sl w 5 RN n.kids ks∧(∀b,0<ks.length→n.kids.ownBlock=some b→B b)∧ks.length=t.kids.length∧∀(i:Nat) (x:ND) (y:NCell),t.kids[i]? =some x→ks[i]? =some y→NdB B w d x y
theorem NdB.of{w:World}:∀(d:Nat) (t:ND) (n:NCell),Nd w d t n→NdB (fun i=>i<w.heap.size) w d t n
 | 0,_,_,h=>h
 | d +1,_,_,⟨h1,h2,h3,h4,ks,h5,h6,h7⟩=>⟨h1,h2,h3,h4,ks,h5,fun b hb e=>by
     obtain⟨A,c,hv,_,_,h8⟩:=h5
     obtain⟨b',off,rfl,hlt,_⟩:=h8 hb
     rw[hv]at e
     cases e
     exact hlt,h6,fun i x y hx hy=>NdB.of d x y (h7 i x y hx hy)⟩
theorem NdB.nd{B:Nat→Prop}{w:World}:∀(d:Nat) (t:ND) (n:NCell),NdB B w d t n→Nd w d t n
 | 0,_,_,h=>h
 | d+1,_,_,⟨h1,h2,h3,h4,ks,h5,_,h6,h7⟩=>⟨h1,h2,h3,h4,ks,h5,h6,fun i x y hx hy=>NdB.nd d x y (h7 i x y hx hy)⟩
theorem NdB.only{B G:Nat→Prop}{w w':World}(ho:Only G w w')(hB:∀i,B i→¬G i):∀(d:Nat) (t:ND) (n:NCell),NdB B w d t n→NdB B w' d t n
 | 0,_,_,h=>h
 | d+1,_,_,⟨h1,h2,h3,h4,ks,h5,h5b,h6,h7⟩=>⟨h1,h2,h3,h4,ks,h5.only ho (fun b hb e=>hB b (h5b b hb e)),h5b,h6,fun i x y hx hy=>NdB.only ho hB d x y (h7 i x y hx hy)⟩
theorem NdB.ext{B:Nat→Prop}{w w':World}(hb:Ext w w')(d:Nat)(t:ND)(n:NCell)(h:NdB B w d t n):NdB B w' d t n:=NdB.only (G:=fun _=>False) (Only.of hb) (fun _ _ q=>q) d t n h
section
variable (fid:FuncId) (pr:ND→Bool) (B:Nat→Prop) (d:Nat) (pa po:Value) (KA:Option Addr) (Kc:Nat) (ks:List NCell) (kids:List ND) (I:World→Prop)
end
structure StOk (St:(Nat→Prop)→World→Prop):Prop where
 ext:∀F W W',St F W→Ext W W'→St F W'
 low:∀F W i,St F W→F i→i<W.heap.size
section
variable (g:FuncId) (cp:Value) (l:List OpD) (St:(Nat→Prop)→World→Prop) (B:Nat→Prop) (hS:StOk St) (o:OpD) (t:ND) (kids:Value) (field sign:ByteArray) (value:Int) (F:Nat→Prop) (w:World)
include hS
end
end Go.Proofs.YtmiolpfanlpfnaaGreat
