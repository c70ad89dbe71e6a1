/- The statement TableTroublesSaid: for every list of acts, every way, place and list of numbers that can be read as data: behind the acts a table of which a way but the first lacks an operation tells just that, one of which it has a key more tells just that, and the chapter's example holds: the call returns true, and the arguments read as they did. No conditions. -/
import Derived.Test.YtohaldfnmgcofaaGreatT43
set_option linter.unusedSimpArgs false
set_option linter.unusedVariables false
namespace Go.Proofs.YtohaldfnmgcofaaGreat
open Go.ChangeShapes Go.WideShapes Go.ChangeAt Go.RowKit
theorem V5i:Tryz.checked.prog.funcNamed Rows.tableTroublesRow.func=some 8:=by kernel_rfl
theorem U0k:Tryz.f8.isInstance Tryz.checked.prog Rows.tableTroublesRow.origin Rows.tableTroublesRow.targs:=of_decide_eq_true (by kernel_rfl)
theorem U0g:Tryz.f8.isWrapper Tryz.checked.prog Rows.tableTroublesRow.wrapper Rows.tableTroublesRow.mainSum:=by unfold Func.isWrapper;first | (rw [if_pos (by decide +kernel)];kernel_rfl) | (rw [if_neg (by decide +kernel)];exact⟨rfl,rfl⟩)
theorem X6p:(Rows.tableTroublesRow.inPlace==Tryz.checked.prog.inPlace 8)=true:=by kernel_rfl
theorem Y7m:(Rows.tableTroublesRow.unfollowed==Tryz.checked.prog.unfollowed 8)=true:=by kernel_rfl
theorem X1s:(Rows.tableTroublesRow.recurses==Tryz.checked.prog.recurses 8)=true:=by kernel_rfl
theorem U0h:(Rows.tableTroublesRow.named==Tryz.checked.prog.varsNamed 8)=true:=by kernel_rfl
theorem U0j:laidOutB Tryz.checked.prog=true:=by kernel_rfl
theorem U0i:mapsRowed Tryz.checked.prog=true:=by kernel_rfl
theorem X9q:joinedFacts Tryz.checked.prog 8 Tryz.f8 Rows.tableTroublesSpec Rows.tableTroublesRow=true:=by
 unfold joinedFacts;rw[X6p,Y7m,X1s,U0h,U0j,U0i]
 kernel_rfl
theorem tableTroubles_holds:Rows.TableTroublesSaid:=
 OpenClaim.holds_of_wide 8 Tryz.f8 rfl rfl rfl rfl rfl rfl rfl ⟨rfl,rfl,rfl,rfl,rfl⟩ rfl rfl rfl rfl rfl V5i Tryz.func8 X9q U0k U0g
  (fun os started H enc _=>Z8r os started H enc)
#print axioms tableTroubles_holds
end Go.Proofs.YtohaldfnmgcofaaGreat
