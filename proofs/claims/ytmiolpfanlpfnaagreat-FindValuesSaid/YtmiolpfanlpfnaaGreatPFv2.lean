/- The statement FindValuesSaid: for every operation, every field's name and every condition that can be read as data, find.Value and find.Plan tell what the document's reference tells, and the chapter's example holds: the call returns true, and the arguments read as they did. No conditions. -/
import Derived.Test.YtmiolpfanlpfnaaGreatQ56
namespace Go.Proofs.YtmiolpfanlpfnaaGreat
set_option linter.unusedSimpArgs false
set_option linter.unusedVariables false
open Go.ChangeShapes Go.WideShapes Go.ChangeAt Go.RowKit
theorem V6r:Tryz.checked.prog.funcNamed Rows.findValuesRow.func=some 8:=by kernel_rfl
theorem V9r:Tryz.f8.isInstance Tryz.checked.prog Rows.findValuesRow.origin Rows.findValuesRow.targs:=of_decide_eq_true (by kernel_rfl)
theorem V9n:Tryz.f8.isWrapper Tryz.checked.prog Rows.findValuesRow.wrapper Rows.findValuesRow.mainSum:=by unfold Func.isWrapper;first | (rw [if_pos (by decide +kernel)];kernel_rfl) | (rw [if_neg (by decide +kernel)];exact⟨rfl,rfl⟩)
theorem X7a:(Rows.findValuesRow.inPlace==Tryz.checked.prog.inPlace 8)=true:=by kernel_rfl
theorem Y7t:(Rows.findValuesRow.unfollowed==Tryz.checked.prog.unfollowed 8)=true:=by kernel_rfl
theorem X2f:(Rows.findValuesRow.recurses==Tryz.checked.prog.recurses 8)=true:=by kernel_rfl
theorem V9o:(Rows.findValuesRow.named==Tryz.checked.prog.varsNamed 8)=true:=by kernel_rfl
theorem V9q:laidOutB Tryz.checked.prog=true:=by kernel_rfl
theorem V9p:mapsRowed Tryz.checked.prog=true:=by kernel_rfl
theorem V2a:joinedFacts Tryz.checked.prog 8 Tryz.f8 Rows.findValuesSpec Rows.findValuesRow=true:=by
 unfold joinedFacts
 rw[X7a,Y7t,X2f,V9o,V9q,V9p]
 kernel_rfl
theorem Y1m:Rows.FindValuesSaid:=
 OpenClaim.holds_of_wide 8 Tryz.f8 rfl rfl rfl rfl rfl rfl rfl ⟨rfl,rfl,rfl,rfl,rfl⟩ rfl rfl rfl rfl rfl V6r Tryz.func8 V2a V9r V9n
  (fun os started H enc _=>Y0o os started H enc)
#print axioms Y1m
end Go.Proofs.YtmiolpfanlpfnaaGreat
