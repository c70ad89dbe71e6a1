/- The statement ScanPathsSaid: for every list of operations and every condition that can be read as data, the operations on the path of the condition's bounds are those that the document's reference says, all that the condition is true of are among them, and they are not more than the path's cost: the call returns true, and the arguments read as they did. No conditions. -/
import Derived.Test.YtmiolpfanlpfnaaGreatP52
set_option linter.unusedSimpArgs false
set_option linter.unusedVariables false
namespace Go.Proofs.YtmiolpfanlpfnaaGreat
open Go.ChangeShapes Go.WideShapes Go.ChangeAt Go.RowKit
theorem V5m:Tryz.checked.prog.funcNamed Rows.scanPathsRow.func=some 6:=by kernel_rfl
theorem V9o:Tryz.f6.isInstance Tryz.checked.prog Rows.scanPathsRow.origin Rows.scanPathsRow.targs:=of_decide_eq_true (by kernel_rfl)
theorem V9k:Tryz.f6.isWrapper Tryz.checked.prog Rows.scanPathsRow.wrapper Rows.scanPathsRow.mainSum:=by unfold Func.isWrapper;first | (rw [if_pos (by decide +kernel)];kernel_rfl) | (rw [if_neg (by decide +kernel)];exact⟨rfl,rfl⟩)
theorem X6q:(Rows.scanPathsRow.inPlace==Tryz.checked.prog.inPlace 6)=true:=by kernel_rfl
theorem Y7j:(Rows.scanPathsRow.unfollowed==Tryz.checked.prog.unfollowed 6)=true:=by kernel_rfl
theorem X1v:(Rows.scanPathsRow.recurses==Tryz.checked.prog.recurses 6)=true:=by kernel_rfl
theorem V9l:(Rows.scanPathsRow.named==Tryz.checked.prog.varsNamed 6)=true:=by kernel_rfl
theorem V9n:laidOutB Tryz.checked.prog=true:=by kernel_rfl
theorem V9m:mapsRowed Tryz.checked.prog=true:=by kernel_rfl
theorem V0n:joinedFacts Tryz.checked.prog 6 Tryz.f6 Rows.scanPathsSpec Rows.scanPathsRow=true:=by
 unfold joinedFacts
 rw[X6q,Y7j,X1v,V9l,V9n,V9m]
 kernel_rfl
theorem scanPaths_holds:Rows.ScanPathsSaid:=
 OpenClaim.holds_of_wide 6 Tryz.f6 rfl rfl rfl rfl rfl rfl rfl ⟨rfl,rfl,rfl,rfl,rfl⟩ rfl rfl rfl rfl rfl V5m Tryz.func6 V0n V9o V9k
  (fun os started H enc _=>Y1q os started H enc)
#print axioms scanPaths_holds
end Go.Proofs.YtmiolpfanlpfnaaGreat
