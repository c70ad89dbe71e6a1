/- The statement TableNobodySaid: for every operation, every way and every list of numbers that can be read as data, no table (nil, or one without trees) answers as the document says, and the chapter's example holds: the call returns true, and the arguments read as they did. No conditions. -/
import Derived.Test.YtojoefcfimmipaaGreatQ40
namespace Go.Proofs.YtojoefcfimmipaaGreat
set_option linter.unusedSimpArgs false
set_option linter.unusedVariables false
open Go.ChangeShapes Go.WideShapes Go.ChangeAt Go.RowKit
theorem tn_named : Tryz.checked.prog.funcNamed Rows.tableNobodyRow.func = some 5 := by kernel_rfl
theorem tn_inst : Tryz.f5.isInstance Tryz.checked.prog Rows.tableNobodyRow.origin Rows.tableNobodyRow.targs := of_decide_eq_true (by kernel_rfl)
theorem tn_wrap : Tryz.f5.isWrapper Tryz.checked.prog Rows.tableNobodyRow.wrapper Rows.tableNobodyRow.mainSum := by unfold Func.isWrapper; first | (rw [if_pos (by decide +kernel)]; kernel_rfl) | (rw [if_neg (by decide +kernel)]; exact ⟨rfl, rfl⟩)
theorem tn_inPlace : (Rows.tableNobodyRow.inPlace == Tryz.checked.prog.inPlace 5) = true := by kernel_rfl
theorem tn_unfollowed : (Rows.tableNobodyRow.unfollowed == Tryz.checked.prog.unfollowed 5) = true := by kernel_rfl
theorem tn_recurses : (Rows.tableNobodyRow.recurses == Tryz.checked.prog.recurses 5) = true := by kernel_rfl
theorem tn_vars : (Rows.tableNobodyRow.named == Tryz.checked.prog.varsNamed 5) = true := by kernel_rfl
theorem tn_laid : laidOutB Tryz.checked.prog = true := by kernel_rfl
theorem tn_maps : mapsRowed Tryz.checked.prog = true := by kernel_rfl
theorem tn_closed : joinedFacts Tryz.checked.prog 5 Tryz.f5 Rows.tableNobodySpec Rows.tableNobodyRow = true := by
  unfold joinedFacts
  rw [tn_inPlace, tn_unfollowed, tn_recurses, tn_vars, tn_laid, tn_maps]
  kernel_rfl
theorem tableNobody_holds : Rows.TableNobodySaid :=
  OpenClaim.holds_of_wide 5 Tryz.f5 rfl rfl rfl rfl rfl rfl rfl ⟨rfl, rfl, rfl, rfl, rfl⟩ rfl rfl rfl rfl rfl tn_named Tryz.func5 tn_closed tn_inst tn_wrap
    (fun os started H enc _ => tableNobody_lifted os started H enc)
#print axioms tableNobody_holds
end Go.Proofs.YtojoefcfimmipaaGreat
