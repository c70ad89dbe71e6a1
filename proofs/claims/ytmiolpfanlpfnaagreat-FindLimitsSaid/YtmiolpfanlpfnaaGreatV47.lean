/- find.Sorted: operations in a query's order, cut at its limit. Conditions: fewer than 10^8 operations. -/
import Derived.Test.YtmiolpfanlpfnaaGreatV45
import Derived.Test.YtmiolpfanlpfnaaGreatLaidO
import Derived.Shelf.SlSortCmp.NoneTotal
set_option maxRecDepth 100000
set_option maxHeartbeats 2000000
set_option linter.unusedSimpArgs false
set_option linter.unusedVariables false
namespace Go.Proofs.YtmiolpfanlpfnaaGreat
open Go.RowKit Go.Sort Go.Shelf Go.Proofs
theorem Z9t{P:Program}(w:World)(t e:TypeId)(a:Option Addr)(l c:Nat)(h:P.underlying t=some (.slice e)):(binOp .eql t (.slice a l c) (.slice none 0 0)).run P w= .ok (.bool a.isNone) w:=by
 simp only[binOp]
 simp[run_equal_slice_nil w t e a l c h]
instance:Inhabited OpD:=⟨opZero⟩
theorem Tryz.isAggO:∀w,(isAgg (Tryz.laysSortO_ren.t 24)).run Tryz.prog w= .ok true w:=fun w=>by kernel_rfl
theorem Tryz.sizeOfO:∀w,(Go.sizeOf (Tryz.laysSortO_ren.t 24)).run Tryz.prog w= .ok 11 w:=fun w=>by kernel_rfl
theorem X0t(v:Value)(l:List OpD)(base:Nat)(w:World)(h:OwnL w base 32 11 OpD.cells v l)(hn:l.length≤1000000000)(qb:Nat)(ord:ByteArray)(down:Bool)(hq:qb<base)(h5:w.cell? ⟨qb,5,none⟩=some (.string ord))(h6:w.cell? ⟨qb,6,none⟩=some (.bool down)):
  Calls Tryz.prog 143 #[v,.func (.func 144) #[] #[.pointer (some ⟨qb,0,none⟩)]] w fun e w'=>e= .returned (.tuple #[])∧(∃l':List OpD,l'.Perm l∧l'.Pairwise (fun a b=>Z0z ord down b a=false)∧Sl w' 11 ROp v l')∧w.grownBy w' v.ownBlock:=by
 have h':w.ownsRow base 32 11 v l.length (l.flatMap OpD.cells):=h
 obtain⟨A,c,rfl,hc1,hc2,hx⟩:=Z2r h'
 by_cases h0:l.length=0
 ·obtain rfl:l= []:=List.eq_nil_of_length_eq_zero h0
  have hcon:=AnyF.slices_SortFunc_none Tryz.laysSortO A c (.func (.func 144) #[] #[.pointer (some ⟨qb,0,none⟩)]) w
  change Calls Tryz.prog 143 _ _ _ at hcon
  refine hcon.mono ?_
  rintro e w' ⟨rfl,rfl⟩
  exact⟨rfl,⟨[],List.Perm.refl _,List.Pairwise.nil,⟨A,c,rfl,by simp,by simpa [maxLen]using hc2,fun h=>absurd h (by simp)⟩⟩,World.grownBy.refl _ _⟩
 ·obtain⟨g,rfl,hgb,hgl,_,_⟩:=hx (by omega)
  have eg:∀args w,(callFunc 144 args).run Tryz.prog w= .ok (.enter 144 args) w:=enters_of Tryz.func144 (by kernel_rfl) rfl
  have hH:=Y7k (enc:=OpD.cells) (k:=11) (fun _=>rfl) h'
  have hcmp:CmpLays Tryz.prog 144 #[.pointer (some ⟨qb,0,none⟩)] OpD.cells 11 (cmpO ord down) g 0 l.toArray.size w:=by
   intro m os dk _ x y
   have hg:=Z8y (w:=w) (g:=g) (m:=m) (os:=os) (k:=11) (enc:=OpD.cells) dk
   have hb:=hg.block qb (by have:=World.block_lt_of_cell? _ _ h5;simpa using this) (by intro e;injection e with e;omega)
   exact Y6k x y qb ord down _ ((World.cell?_of_block (w:=w) hb).trans h5) ((World.cell?_of_block (w:=w) hb).trans h6)
  have hcon:=AnyQ.slices_SortFunc Tryz.laysSortO 11 Tryz.isAggO Tryz.sizeOfO OpD.cells (fun _=>rfl) (fun x v hv=>Z7r x v hv) (cmpO ord down) (swoO ord down) 144 #[.pointer (some ⟨qb,0,none⟩)] g 0 c l.toArray w eg hcmp hH hgl (by simp;omega)
  change Calls Tryz.prog 143 _ _ _ at hcon
  simp only[List.size_toArray]at hcon
  refine hcon.mono ?_
  rintro e w' ⟨rfl,d',n,os,hp,hs,rfl⟩
  have hds:d'.size=l.length:=by have:=hp.1;simpa using this
  refine⟨rfl,⟨d'.toList,by simpa using X1c (d:=l.toArray) (by simpa using hp),?_,?_⟩,Z8y d'⟩
  ·refine(Z9s hds.symm hs).imp fun {a b} h=> ?_
   rw[ltO]at h
   exact h
  ·exact Y8m (enc:=OpD.cells) (k:=11) (R:=ROp) (fun _=>rfl) (fun _=>rfl) (holdsK_sortWorldK_c OpD.cells 11 w g 0 l.toArray d' n os hH hgl (by simpa using hds)) hds.symm hc1 (by simpa [maxLen]using hc2) (by simp[sortWorldK,putRowK,putRow,mapBlock,grow,Sort.ahead];omega)
theorem Y9f(V:Value)(l:List OpD)(w:World)(hs:Sl w 11 ROp V l)(hn:l.length≤1000000000):
  Calls Tryz.prog 142 #[V] w fun e w'=>(∃v,e= .returned v∧OwnL w' w.heap.size 32 11 OpD.cells v l)∧Ext w w':=by
 obtain⟨A,c,rfl⟩:=hs.form
 have HS:=hD hs
 have hnn:=fun(a:Option Addr) (l c:Nat) (w:World)=>Z9t (P:=Tryz.prog) w 30 32 a l c Tryz.underlying30
 obtain⟨_,hc1,hc2,hA⟩:=hs.at
 cases A with
 | none=>
   obtain rfl:l= []:=by
    rcases Nat.eq_zero_or_pos l.length with e | e
    ·exact List.eq_nil_of_length_eq_zero e
    ·obtain⟨_,_,h,_⟩:=hA e
     cases h
   clear hs hA
   go_enter Tryz.func142,Tryz.ntmps142
   go_wp2_with fail
   go_ret
   exact⟨⟨_,rfl,OwnL.nil _ _ _ _ _⟩,by exact Xt⟩
 | some ad=>
   clear hs hA
   go_enter Tryz.func142,Tryz.ntmps142
   go_wp2_with (at_builtin;go_loud (refine Z2d elOp Z2t Z7r rfl (.tmp 5) (.tmp 6) rfl _ [] rfl (OwnL.made _ _ _ _) (by first | (simp;done) | (simp;omega) | omega) _ _ _ l rfl rfl ?la2 (by simpa using hn) (by decide) ?_))
   case la2=>exact Src.sl Z2t (by decide) (fun _ _ h=>h) (HS.out.ext (by exact Xt))
   intro pA pc wp hp1 hgp
   have X1:=hD ((OwnL.made w 32 11 OpD.cells).grown (a:=w) (by exact Xt) hgp (by simp))
   have O1:=hD hp1
   clear hp1 hgp
   go_wp2_with fail
   go_ret
   exact⟨⟨_,rfl,O1.out⟩,X1.out⟩
theorem Y4i(V:Value)(l:List OpD)(nk:Int)(nA:Option Addr)(nm nc:Nat)(nf ns:ByteArray)(nv:Int)(ord:ByteArray)(down:Bool)(limit:Int)(count:Bool)(w:World)(hs:Sl w 11 ROp V l)(hn:l.length≤1000000000)(hlim: -9223372036854775808≤limit∧limit≤9223372036854775807):
  Calls Tryz.prog 88 #[V,.agg #[.int .i64 nk,.slice nA nm nc,.string nf,.string ns,.int .i64 nv,.string ord,.bool down,.int .i64 limit,.bool count]] w fun e w'=>
   (∃l' v,e= .returned v∧Sl w' 11 ROp v (cutL limit l')∧l'.Perm l∧l'.Pairwise (fun a b=>Z0z ord down b a=false)∧∀b,v.ownBlock=some b→w.heap.size≤b)∧Ext w w':=by
 obtain⟨A,c,rfl⟩:=hs.form
 have HS:=hD hs
 clear hs
 have hmf:∀(fn:Fn) (first cap:Array Value) (w:World),(Instr.makeFunc fn first cap).run Tryz.prog w= .ok (.func fn first cap) w:=fun _ _ _ _=>rfl
 have HBOX:Hid (∀W:World,Ext (w.alloc (.cells #[.int .i64 nk,.slice nA nm nc,.string nf,.string ns,.int .i64 nv,.string ord,.bool down,.int .i64 limit,.bool count] 69)) W→
   W.cell? ⟨w.heap.size,5,none⟩=some (.string ord)∧W.cell? ⟨w.heap.size,6,none⟩=some (.bool down)∧W.cell? ⟨w.heap.size,7,none⟩=some (.int .i64 limit)):=
  fun W hb=>⟨by rw[hb.cell (by first | (simp;done) | (simp;omega) | omega)];go_simp,by rw[hb.cell (by first | (simp;done) | (simp;omega) | omega)];go_simp,by rw[hb.cell (by first | (simp;done) | (simp;omega) | omega)];go_simp⟩
 go_enter Tryz.func88,Tryz.ntmps88
 go_wp2_with fail
 refine(Y9f _ l _ (HS.out.ext (by exact Xt)) hn).mono ?_
 rintro e w1 ⟨⟨v,rfl,ho⟩,hb1⟩
 obtain⟨vA,vc,rfl⟩:=ho.form
 have HO:=hD ho
 have KB:=hD hb1
 have HOB:Hid (∀b,(Value.slice vA l.length vc).ownBlock=some b→w.heap.size≤b):=fun b q=>by have:=(ho.lt b q).1;simp at this;omega
 obtain⟨c5,c6,c7⟩:=HBOX.out _ hb1
 clear ho hb1
 go_wp2_with fail
 refine(X0t _ l _ _ HO.out hn w.heap.size ord down (by simp) c5 c6).mono ?_
 rintro e w2 ⟨rfl,⟨l',hpe,hpw,hsl⟩,hgr⟩
 have KB2:=hD (HO.out.grown KB.out hgr (by simp))
 have K3:Hid (Ext w w2):=Ext.trans (Ext.alloc _ _) KB2.out
 have HLL:=hD hpe.length_eq
 have HPE:=hD hpe
 have HPW:=hD hpw
 have HSL:=hD hsl
 clear c5 c6 c7 hpe hpw hsl hgr
 obtain⟨c5,c6,c7⟩:=HBOX.out _ KB2.out
 have HOBS:Hid (∀m c':Nat,∀b,(Value.slice vA m c').ownBlock=some b→w.heap.size≤b):=fun m c' b q=>HOB.out b (by cases vA<;>exact q)
 obtain⟨hco1,hco2⟩:l.length≤vc∧vc≤9223372036854775807:=by obtain⟨_,h1,h2,_⟩:=HSL.out.at;have:=HLL.out;exact⟨by omega,h2⟩
 by_cases h0:0≤limit
 ·obtain⟨m,rfl⟩:∃m:Nat,limit=m:=⟨limit.toNat,by omega⟩
  by_cases h1:m<l.length
  ·have q1:decide ((m:Int)<(l.length:Int))=true:=by simp;omega
   have HC:Hid (cutL m l'=l'.take m):=by have:=HLL.out;unfold Hid cutL;rw[if_pos ⟨by omega,by omega⟩];simp
   have hmv:m≤vc:=by omega
   go_wp2_with fail
   go_ret
   refine⟨⟨l',_,rfl,?_,HPE.out,HPW.out,HOBS.out _ _⟩,by exact Xx (K3.out)⟩
   rw[HC.out]
   exact HSL.out.take (by omega)
  ·have q1:decide ((m:Int)<(l.length:Int))=false:=by simp;omega
   have HC:Hid (cutL m l'=l'):=by have:=HLL.out;unfold Hid cutL;rw[if_neg (by omega)]
   go_wp2_with fail
   go_ret
   refine⟨⟨l',_,rfl,?_,HPE.out,HPW.out,HOBS.out _ _⟩,by exact Xx (K3.out)⟩
   rw[HC.out]
   exact HSL.out
 ·have q1:decide ((0:Int)≤limit)=false:=by simp;omega
  have HC:Hid (cutL limit l'=l'):=by unfold Hid cutL;rw[if_neg (by omega)]
  go_wp2_with fail
  go_ret
  refine⟨⟨l',_,rfl,?_,HPE.out,HPW.out,HOBS.out _ _⟩,by exact Xx (K3.out)⟩
  rw[HC.out]
  exact HSL.out
theorem Z7q{α:Type}{R:α→α→Prop}:∀(l1 l2:List α),l1.Perm l2→l1.Pairwise R→l2.Pairwise R→(∀a∈l1,∀b∈l1,R a b→R b a→a=b)→l1=l2
 | [],l2,hp,_,_,_=>(List.nil_perm.1 hp).symm
 | a::r,[],hp,_,_,_=>absurd hp.length_eq (by simp)
 | a::r,b::s,hp,h1,h2,ha=>by
   have hab:a=b:=by
    have ma:a∈b::s:=hp.subset (by simp)
    have mb:b∈a::r:=hp.symm.subset (by simp)
    rcases List.mem_cons.1 ma with e | e
    ·exact e
    rcases List.mem_cons.1 mb with e' | e'
    ·exact e'.symm
    exact ha a (by simp) b mb ((List.pairwise_cons.1 h1).1 b e') ((List.pairwise_cons.1 h2).1 a e)
   subst hab
   rw[Z7q r s (List.Perm.cons_inv hp) (List.pairwise_cons.1 h1).2 (List.pairwise_cons.1 h2).2 (fun x hx y hy=>ha x (by simp[hx]) y (by simp[hy]))]
theorem X2e(ord:ByteArray)(down:Bool)(a b:OpD)(h1:Z0z ord down a b=false)(h2:Z0z ord down b a=false):a.id=b.id:=by
 unfold Z0z at *
 generalize Z0u ord a=x at *
 generalize Z0u ord b=y at *
 cases down<;>simp at * <;>(repeat' split at *)<;>(try simp at *)<;>omega
theorem X2d(ord:ByteArray)(down:Bool)(a b c:OpD)(h1:Z0z ord down b a=false)(h2:Z0z ord down c b=false):Z0z ord down c a=false:=by
 have:=(swoO ord down).ntrans c b a
 rw[ltO,ltO,ltO]at this
 exact this h2 h1
theorem Y3j(ord:ByteArray)(down:Bool)(o:OpD):∀xs:List OpD,(insO ord down o xs).Perm (o::xs)
 | []=>List.Perm.refl _
 | x::r=>by
   unfold insO
   split
   ·exact((Y3j ord down o r).cons x).trans (List.Perm.swap _ _ _)
   ·exact List.Perm.refl _
theorem Y3i(ord:ByteArray)(down:Bool)(o:OpD):∀xs:List OpD,xs.Pairwise (fun a b=>Z0z ord down b a=false)→(insO ord down o xs).Pairwise (fun a b=>Z0z ord down b a=false)
 | [],_=>by simp[insO]
 | x::r,h=>by
   obtain⟨hx,hr⟩:=List.pairwise_cons.1 h
   unfold insO
   split
   ·rename_i ha
    refine List.pairwise_cons.2 ⟨fun y hy=> ?_,Y3i ord down o r hr⟩
    rcases List.mem_cons.1 ((Y3j ord down o r).subset hy)with rfl | hy
    ·cases hq:Z0z ord down y x
     ·rfl
     ·have h3:=(swoO ord down).trans x y x
      rw[ltO,ltO,ltO]at h3
      have h4:=(swoO ord down).irrefl x
      rw[ltO,h3 ha hq]at h4
      cases h4
    ·exact hx y hy
   ·rename_i ha
    have ha':Z0z ord down x o=false:=by simpa using ha
    refine List.pairwise_cons.2 ⟨fun y hy=> ?_,h⟩
    rcases List.mem_cons.1 hy with rfl | hy
    ·exact ha'
    ·exact X2d ord down o x y ha' (hx y hy)
end Go.Proofs.YtmiolpfanlpfnaaGreat
