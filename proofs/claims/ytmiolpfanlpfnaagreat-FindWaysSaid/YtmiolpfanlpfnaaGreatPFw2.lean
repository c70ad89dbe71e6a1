/- The statement FindWaysSaid: for every list of operations, every query and every number of an object that can be read as data, the answer does not hang on the way by which operations are found, and the chapter's example holds: the call returns true, and the arguments read as they did. No conditions. -/
import Derived.Test.YtmiolpfanlpfnaaGreatV51
set_option linter.unusedSimpArgs false
set_option linter.unusedVariables false
namespace Go.Proofs.YtmiolpfanlpfnaaGreat
open Go.ChangeShapes Go.WideShapes Go.ChangeAt Go.RowKit
theorem V6m:Tryz.checked.prog.funcNamed Rows.findWaysRow.func=some 9:=by kernel_rfl
theorem V9q:Tryz.f9.isInstance Tryz.checked.prog Rows.findWaysRow.origin Rows.findWaysRow.targs:=of_decide_eq_true (by kernel_rfl)
theorem V9m:Tryz.f9.isWrapper Tryz.checked.prog Rows.findWaysRow.wrapper Rows.findWaysRow.mainSum:=by unfold Func.isWrapper;first | (rw [if_pos (by decide +kernel)];kernel_rfl) | (rw [if_neg (by decide +kernel)];exact⟨rfl,rfl⟩)
theorem X6l:(Rows.findWaysRow.inPlace==Tryz.checked.prog.inPlace 9)=true:=by kernel_rfl
theorem Y7m:(Rows.findWaysRow.unfollowed==Tryz.checked.prog.unfollowed 9)=true:=by kernel_rfl
theorem X1t:(Rows.findWaysRow.recurses==Tryz.checked.prog.recurses 9)=true:=by kernel_rfl
theorem V9n:(Rows.findWaysRow.named==Tryz.checked.prog.varsNamed 9)=true:=by kernel_rfl
theorem V9p:laidOutB Tryz.checked.prog=true:=by kernel_rfl
theorem V9o:mapsRowed Tryz.checked.prog=true:=by kernel_rfl
theorem V1l:joinedFacts Tryz.checked.prog 9 Tryz.f9 Rows.findWaysSpec Rows.findWaysRow=true:=by
 unfold joinedFacts
 rw[X6l,Y7m,X1t,V9n,V9p,V9o]
 kernel_rfl
theorem findWays_holds:Rows.FindWaysSaid:=
 OpenClaim.holds_of_wide 9 Tryz.f9 rfl rfl rfl rfl rfl rfl rfl ⟨rfl,rfl,rfl,rfl,rfl⟩ rfl rfl rfl rfl rfl V6m Tryz.func9 V1l V9q V9m
  (fun os started H enc _=>Y3m os started H enc)
#print axioms findWays_holds
end Go.Proofs.YtmiolpfanlpfnaaGreat
