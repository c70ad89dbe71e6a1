/- find.Sorted: operations in a query's order, cut at its limit. Conditions: fewer than 10^8 operations. -/
import Derived.Test.YtmiolpfanlpfnaaGreatW39
import Derived.Test.YtmiolpfanlpfnaaGreatW04
import Derived.Shelf.SlSortCmp.NoneTotal
set_option linter.unusedSimpArgs false
set_option linter.unusedVariables false
namespace Go.Proofs.YtmiolpfanlpfnaaGreat
open Go.RowKit Go.Sort Go.Shelf Go.Proofs
instance:Inhabited OpD:=⟨opZero⟩
theorem Z8n{α:Type}{R:α->α->Prop}:∀(l1 l2:List α),l1.Perm l2->l1.Pairwise R->l2.Pairwise R->(∀a∈l1,∀b∈l1,R a b->R b a->a=b)->l1=l2
 | [],l2,hp,_,_,_=>(List.nil_perm.1 hp).symm
 | a::r,[],hp,_,_,_=>absurd hp.length_eq (by simp)
 | a::r,b::s,hp,h1,h2,ha=>by
   have hab:a=b:=by
    have ma:a∈b::s:=hp.subset (by simp);have mb:b∈a::r:=hp.symm.subset (by simp);rcases List.mem_cons.1 ma with e | e
    ·exact e
    rcases List.mem_cons.1 mb with e' | e'
    ·exact e'.symm
    exact ha a (by simp) b mb ((List.pairwise_cons.1 h1).1 b e') ((List.pairwise_cons.1 h2).1 a e)
   subst hab;rw[Z8n r s (List.Perm.cons_inv hp) (List.pairwise_cons.1 h1).2 (List.pairwise_cons.1 h2).2 (fun x hx y hy=>ha x (by simp[hx]) y (by simp[hy]))]
end Go.Proofs.YtmiolpfanlpfnaaGreat
