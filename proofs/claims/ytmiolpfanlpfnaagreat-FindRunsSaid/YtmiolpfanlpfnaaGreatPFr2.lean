/- The statement FindRunsSaid: for every list of operations and every query that can be read as data, find.Run of a table that is filled with the operations answers as the document's reference does, and the chapter's example holds: the call returns true, and the arguments read as they did. No conditions. -/
import Derived.Test.YtmiolpfanlpfnaaGreatQ55
namespace Go.Proofs.YtmiolpfanlpfnaaGreat
set_option linter.unusedSimpArgs false
set_option linter.unusedVariables false
open Go.ChangeShapes Go.WideShapes Go.ChangeAt Go.RowKit
theorem V6t:Tryz.checked.prog.funcNamed Rows.findRunsRow.func=some 7:=by kernel_rfl
theorem V9w:Tryz.f7.isInstance Tryz.checked.prog Rows.findRunsRow.origin Rows.findRunsRow.targs:=of_decide_eq_true (by kernel_rfl)
theorem V9s:Tryz.f7.isWrapper Tryz.checked.prog Rows.findRunsRow.wrapper Rows.findRunsRow.mainSum:=by unfold Func.isWrapper;first | (rw [if_pos (by decide +kernel)];kernel_rfl) | (rw [if_neg (by decide +kernel)];exact⟨rfl,rfl⟩)
theorem X7e:(Rows.findRunsRow.inPlace==Tryz.checked.prog.inPlace 7)=true:=by kernel_rfl
theorem Y7u:(Rows.findRunsRow.unfollowed==Tryz.checked.prog.unfollowed 7)=true:=by kernel_rfl
theorem X2i:(Rows.findRunsRow.recurses==Tryz.checked.prog.recurses 7)=true:=by kernel_rfl
theorem V9t:(Rows.findRunsRow.named==Tryz.checked.prog.varsNamed 7)=true:=by kernel_rfl
theorem V9v:laidOutB Tryz.checked.prog=true:=by kernel_rfl
theorem V9u:mapsRowed Tryz.checked.prog=true:=by kernel_rfl
theorem V2f:joinedFacts Tryz.checked.prog 7 Tryz.f7 Rows.findRunsSpec Rows.findRunsRow=true:=by
 unfold joinedFacts
 rw[X7e,Y7u,X2i,V9t,V9v,V9u]
 kernel_rfl
theorem Y4t:Rows.FindRunsSaid:=
 OpenClaim.holds_of_wide 7 Tryz.f7 rfl rfl rfl rfl rfl rfl rfl ⟨rfl,rfl,rfl,rfl,rfl⟩ rfl rfl rfl rfl rfl V6t Tryz.func7 V2f V9w V9s
  (fun os started H enc _=>Y3x os started H enc)
#print axioms Y4t
end Go.Proofs.YtmiolpfanlpfnaaGreat
