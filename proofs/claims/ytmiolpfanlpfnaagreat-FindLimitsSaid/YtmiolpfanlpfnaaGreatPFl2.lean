/- The statement FindLimitsSaid: for every list of operations, every query and every limit that can be read as data, as many of an answer are told as are asked for, the first ones, in the query's order, and the chapter's example holds: the call returns true, and the arguments read as they did. No conditions. -/
import Derived.Test.YtmiolpfanlpfnaaGreatV52
set_option linter.unusedSimpArgs false
set_option linter.unusedVariables false
namespace Go.Proofs.YtmiolpfanlpfnaaGreat
open Go.ChangeShapes Go.WideShapes Go.ChangeAt Go.RowKit
theorem V6q:Tryz.checked.prog.funcNamed Rows.findLimitsRow.func=some 12:=by kernel_rfl
theorem V9v:Tryz.f12.isInstance Tryz.checked.prog Rows.findLimitsRow.origin Rows.findLimitsRow.targs:=of_decide_eq_true (by kernel_rfl)
theorem V9r:Tryz.f12.isWrapper Tryz.checked.prog Rows.findLimitsRow.wrapper Rows.findLimitsRow.mainSum:=by unfold Func.isWrapper;first | (rw [if_pos (by decide +kernel)];kernel_rfl) | (rw [if_neg (by decide +kernel)];exact⟨rfl,rfl⟩)
theorem X6r:(Rows.findLimitsRow.inPlace==Tryz.checked.prog.inPlace 12)=true:=by kernel_rfl
theorem Y7n:(Rows.findLimitsRow.unfollowed==Tryz.checked.prog.unfollowed 12)=true:=by kernel_rfl
theorem X1w:(Rows.findLimitsRow.recurses==Tryz.checked.prog.recurses 12)=true:=by kernel_rfl
theorem V9s:(Rows.findLimitsRow.named==Tryz.checked.prog.varsNamed 12)=true:=by kernel_rfl
theorem V9u:laidOutB Tryz.checked.prog=true:=by kernel_rfl
theorem V9t:mapsRowed Tryz.checked.prog=true:=by kernel_rfl
theorem V1t:joinedFacts Tryz.checked.prog 12 Tryz.f12 Rows.findLimitsSpec Rows.findLimitsRow=true:=by
 unfold joinedFacts
 rw[X6r,Y7n,X1w,V9s,V9u,V9t]
 kernel_rfl
theorem findLimits_holds:Rows.FindLimitsSaid:=
 OpenClaim.holds_of_wide 12 Tryz.f12 rfl rfl rfl rfl rfl rfl rfl ⟨rfl,rfl,rfl,rfl,rfl⟩ rfl rfl rfl rfl rfl V6q Tryz.func12 V1t V9v V9r
  (fun os started H enc _=>Y0l os started H enc)
#print axioms findLimits_holds
end Go.Proofs.YtmiolpfanlpfnaaGreat
