/- The statement FindTimesSaid: for every list of operations and every number that can be read as data, of an operation all others are before it, after it, or beside it, each just one of these, as find.Run tells, and the chapter's example holds: the call returns true, and the arguments read as they did. No conditions. -/
import Derived.Test.YtmiolpfanlpfnaaGreatQ57
namespace Go.Proofs.YtmiolpfanlpfnaaGreat
set_option linter.unusedSimpArgs false
set_option linter.unusedVariables false
open Go.ChangeShapes Go.WideShapes Go.ChangeAt Go.RowKit
theorem ft_named:Tryz.checked.prog.funcNamed Rows.findTimesRow.func=some 11:=by kernel_rfl
theorem ft_inst:Tryz.f11.isInstance Tryz.checked.prog Rows.findTimesRow.origin Rows.findTimesRow.targs:=of_decide_eq_true (by kernel_rfl)
theorem ft_wrap:Tryz.f11.isWrapper Tryz.checked.prog Rows.findTimesRow.wrapper Rows.findTimesRow.mainSum:=by unfold Func.isWrapper;first | (rw [if_pos (by decide +kernel)];kernel_rfl) | (rw [if_neg (by decide +kernel)];exact⟨rfl,rfl⟩)
theorem ft_inPlace:(Rows.findTimesRow.inPlace==Tryz.checked.prog.inPlace 11)=true:=by kernel_rfl
theorem ft_unfollowed:(Rows.findTimesRow.unfollowed==Tryz.checked.prog.unfollowed 11)=true:=by kernel_rfl
theorem ft_recurses:(Rows.findTimesRow.recurses==Tryz.checked.prog.recurses 11)=true:=by kernel_rfl
theorem ft_vars:(Rows.findTimesRow.named==Tryz.checked.prog.varsNamed 11)=true:=by kernel_rfl
theorem ft_laid:laidOutB Tryz.checked.prog=true:=by kernel_rfl
theorem ft_maps:mapsRowed Tryz.checked.prog=true:=by kernel_rfl
theorem ft_closed:joinedFacts Tryz.checked.prog 11 Tryz.f11 Rows.findTimesSpec Rows.findTimesRow=true:=by
 unfold joinedFacts
 rw[ft_inPlace,ft_unfollowed,ft_recurses,ft_vars,ft_laid,ft_maps]
 kernel_rfl
theorem findTimes_holds:Rows.FindTimesSaid:=
 OpenClaim.holds_of_wide 11 Tryz.f11 rfl rfl rfl rfl rfl rfl rfl ⟨rfl,rfl,rfl,rfl,rfl⟩ rfl rfl rfl rfl rfl ft_named Tryz.func11 ft_closed ft_inst ft_wrap
  (fun os started H enc _=>Y1n os started H enc)
#print axioms findTimes_holds
end Go.Proofs.YtmiolpfanlpfnaaGreat
