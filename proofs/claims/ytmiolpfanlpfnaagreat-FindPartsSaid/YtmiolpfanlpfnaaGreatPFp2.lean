/- The statement FindPartsSaid: for every list of operations and every condition that can be read as data, what the condition is true of and what it isn't true of are all operations of the table, each once, and twice turned it is itself: the call returns true, and the arguments read as they did. No conditions. -/
import Derived.Test.YtmiolpfanlpfnaaGreatPFp1
namespace Go.Proofs.YtmiolpfanlpfnaaGreat
set_option linter.unusedSimpArgs false
set_option linter.unusedVariables false
open Go.ChangeShapes Go.WideShapes Go.ChangeAt Go.RowKit

theorem fp_named : Tryz.checked.prog.funcNamed Rows.findPartsRow.func = some 10 := by kernel_rfl
theorem fp_inst : Tryz.f10.isInstance Tryz.checked.prog Rows.findPartsRow.origin Rows.findPartsRow.targs := of_decide_eq_true (by kernel_rfl)
theorem fp_wrap : Tryz.f10.isWrapper Tryz.checked.prog Rows.findPartsRow.wrapper Rows.findPartsRow.mainSum := by unfold Func.isWrapper; first | (rw [if_pos (by decide +kernel)]; kernel_rfl) | (rw [if_neg (by decide +kernel)]; exact ⟨rfl, rfl⟩)
theorem fp_inPlace : (Rows.findPartsRow.inPlace == Tryz.checked.prog.inPlace 10) = true := by kernel_rfl
theorem fp_unfollowed : (Rows.findPartsRow.unfollowed == Tryz.checked.prog.unfollowed 10) = true := by kernel_rfl
theorem fp_recurses : (Rows.findPartsRow.recurses == Tryz.checked.prog.recurses 10) = true := by kernel_rfl
theorem fp_vars : (Rows.findPartsRow.named == Tryz.checked.prog.varsNamed 10) = true := by kernel_rfl
theorem fp_laid : laidOutB Tryz.checked.prog = true := by kernel_rfl
theorem fp_maps : mapsRowed Tryz.checked.prog = true := by kernel_rfl
theorem fp_closed : joinedFacts Tryz.checked.prog 10 Tryz.f10 Rows.findPartsSpec Rows.findPartsRow = true := by
  unfold joinedFacts
  rw [fp_inPlace, fp_unfollowed, fp_recurses, fp_vars, fp_laid, fp_maps]
  kernel_rfl
theorem findParts_holds : Rows.FindPartsSaid :=
  OpenClaim.holds_of_wide 10 Tryz.f10 rfl rfl rfl rfl rfl rfl rfl ⟨rfl, rfl, rfl, rfl, rfl⟩ rfl rfl rfl rfl rfl fp_named Tryz.func10 fp_closed fp_inst fp_wrap
    (fun os started H enc _ => findParts_lifted os started H enc)

#print axioms findParts_holds
end Go.Proofs.YtmiolpfanlpfnaaGreat

