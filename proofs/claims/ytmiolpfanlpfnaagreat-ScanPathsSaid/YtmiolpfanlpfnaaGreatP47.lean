/- slices.SortFunc at groups: sorted by their numbers. Conditions: fewer than 10^9. -/
import Derived.Test.YtmiolpfanlpfnaaGreatP44
import Derived.Test.YtmiolpfanlpfnaaGreatLaidG
import Derived.Shelf.SlSortCmp.NoneTotal
import Derived.Test.YtmiolpfanlpfnaaGreatP05
set_option linter.unusedSimpArgs false
set_option linter.unusedVariables false
namespace Go.Proofs.YtmiolpfanlpfnaaGreat
open Go.RowKit Go.Sort Go.Shelf Go.Proofs
instance:Inhabited Grp:=⟨⟨0,0⟩⟩
theorem Y6x(a b:Grp)(W:World):Calls Tryz.prog 141 #[.agg a.cells.toArray,.agg b.cells.toArray] W fun e w'=>e= .returned (.int .i64 (cmpI a.val b.val))∧∃q os',w'=grow (W.drewN q) os':=by
 obtain⟨a1,a2⟩:=a
 obtain⟨b1,b2⟩:=b
 show Calls Tryz.prog 141 #[.agg #[.int .i64 a1,.int .i64 a2],.agg #[.int .i64 b1,.int .i64 b2]] W _
 go_enter Tryz.func141,Tryz.ntmps141
 go_wp2_with (go_at_call 139;refine(Z7z _ _ _).mono ?_;rintro e w' ⟨rfl,rfl⟩)
 go_ret
 exact⟨rfl,0,_,by rw[alloc_eq_grow,alloc_eq_grow,grow_grow];rfl⟩
theorem ltG(x y:Grp):ltOf (fun x y:Grp=>cmpI x.val y.val) x y=decide (x.val<y.val):=by
 unfold ltOf cmpI
 by_cases h1:x.val<y.val
 ·simp[h1]
 ·by_cases h2:y.val<x.val<;>simp[h1,h2]
theorem swoG:SWO (ltOf fun x y:Grp=>cmpI x.val y.val) where
 irrefl x:=by rw[ltG];simp
 trans x y z h1 h2:=by rw[ltG]at *;simp at *;omega
 ntrans x y z h1 h2:=by rw[ltG]at *;simp at *;omega
theorem Tryz.isAggG:∀w,(isAgg (Tryz.laysSortG_ren.t 24)).run Tryz.prog w= .ok true w:=fun w=>by kernel_rfl
theorem Tryz.sizeOfG:∀w,(Go.sizeOf (Tryz.laysSortG_ren.t 24)).run Tryz.prog w= .ok 2 w:=fun w=>by kernel_rfl
theorem Y4z(v:Value)(gs:List Grp)(base:Nat)(w:World)(h:w.ownsRow base 125 2 v gs.length (gs.flatMap Grp.cells))(hn:gs.length≤1000000000):
  Calls Tryz.prog 140 #[v,.func (.func 141) #[] #[]] w fun e w'=>e= .returned (.tuple #[])∧(∃gs':List Grp,gs'.Perm gs∧gs'.Pairwise (fun a b=>a.val≤b.val)∧Sl w' 2 RG v gs')∧w.grownBy w' v.ownBlock:=by
 obtain⟨A,c,rfl,hc1,hc2,hx⟩:=Z2w h
 by_cases h0:gs.length=0
 ·obtain rfl:gs= []:=List.eq_nil_of_length_eq_zero h0
  have hcon:=AnyF.slices_SortFunc_none Tryz.laysSortG A c (.func (.func 141) #[] #[]) w
  change Calls Tryz.prog 140 _ _ _ at hcon
  refine hcon.mono ?_
  rintro e w' ⟨rfl,rfl⟩
  exact⟨rfl,⟨[],List.Perm.refl _,List.Pairwise.nil,⟨A,c,rfl,by simp,by simpa [maxLen]using hc2,fun h=>absurd h (by simp)⟩⟩,World.grownBy.refl _ _⟩
 ·obtain⟨g,rfl,_,hgl,_,_⟩:=hx (by omega)
  have eg:∀args w,(callFunc 141 args).run Tryz.prog w= .ok (.enter 141 args) w:=enters_of Tryz.func141 (by kernel_rfl) rfl
  have hH:=Y8c (enc:=Grp.cells) (k:=2) (fun _=>rfl) h
  have hcon:=AnyQ.slices_SortFunc Tryz.laysSortG 2 Tryz.isAggG Tryz.sizeOfG Grp.cells (fun _=>rfl) (fun x v hv=>by simp[Grp.cells]at hv;rcases hv with rfl | rfl<;>rfl) (fun x y=>cmpI x.val y.val) swoG 141 #[] g 0 c gs.toArray w eg (fun m os dk _ x y=>Y6x x y _) hH hgl (by simp;omega)
  change Calls Tryz.prog 140 _ _ _ at hcon
  simp only[List.size_toArray]at hcon
  refine hcon.mono ?_
  rintro e w' ⟨rfl,d',n,os,hp,hs,rfl⟩
  have hds:d'.size=gs.length:=by have:=hp.1;simpa using this
  refine⟨rfl,⟨d'.toList,by simpa using X1s (d:=gs.toArray) (by simpa using hp),?_,?_⟩,Y8e d'⟩
  ·refine(Y0a hds.symm hs).imp fun {a b} h=> ?_
   rw[ltG]at h
   simpa using h
  ·exact Y9h (enc:=Grp.cells) (k:=2) (R:=RG) (fun _=>rfl) (fun _=>rfl) (holdsK_sortWorldK_c Grp.cells 2 w g 0 gs.toArray d' n os hH hgl (by simpa using hds)) hds.symm hc1 (by simpa [maxLen]using hc2) (by simp[sortWorldK,putRowK,putRow,mapBlock,grow,Sort.ahead];omega)
instance:Inhabited OpD:=⟨opZero⟩
theorem Z7x{α:Type}{R:α→α→Prop}:∀(l1 l2:List α),l1.Perm l2→l1.Pairwise R→l2.Pairwise R→(∀a∈l1,∀b∈l1,R a b→R b a→a=b)→l1=l2
 | [],l2,hp,_,_,_=>(List.nil_perm.1 hp).symm
 | a::r,[],hp,_,_,_=>absurd hp.length_eq (by simp)
 | a::r,b::s,hp,h1,h2,ha=>by
   have hab:a=b:=by
    have ma:a∈b::s:=hp.subset (by simp)
    have mb:b∈a::r:=hp.symm.subset (by simp)
    rcases List.mem_cons.1 ma with e | e
    ·exact e
    rcases List.mem_cons.1 mb with e' | e'
    ·exact e'.symm
    exact ha a (by simp) b mb ((List.pairwise_cons.1 h1).1 b e') ((List.pairwise_cons.1 h2).1 a e)
   subst hab
   rw[Z7x r s (List.Perm.cons_inv hp) (List.pairwise_cons.1 h1).2 (List.pairwise_cons.1 h2).2 (fun x hx y hy=>ha x (by simp[hx]) y (by simp[hy]))]
end Go.Proofs.YtmiolpfanlpfnaaGreat
