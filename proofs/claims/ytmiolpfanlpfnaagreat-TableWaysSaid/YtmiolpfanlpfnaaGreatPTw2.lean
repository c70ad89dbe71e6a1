/- The statement TableWaysSaid: for every list of acts that can be read as data, behind them every way finds every operation of the table, just once, and the chapter's example holds: the call returns true, and the argument reads as it did. No conditions. -/
import Derived.Test.YtmiolpfanlpfnaaGreatT52
set_option linter.unusedSimpArgs false
set_option linter.unusedVariables false
namespace Go.Proofs.YtmiolpfanlpfnaaGreat
open Go.ChangeShapes Go.WideShapes Go.ChangeAt Go.RowKit
theorem V2x:Tryz.checked.prog.funcNamed Rows.tableWaysRow.func=some 4:=by kernel_rfl
theorem V7t:Tryz.f4.isInstance Tryz.checked.prog Rows.tableWaysRow.origin Rows.tableWaysRow.targs:=of_decide_eq_true (by kernel_rfl)
theorem V7p:Tryz.f4.isWrapper Tryz.checked.prog Rows.tableWaysRow.wrapper Rows.tableWaysRow.mainSum:=by unfold Func.isWrapper;first | (rw [if_pos (by decide +kernel)];kernel_rfl) | (rw [if_neg (by decide +kernel)];exact⟨rfl,rfl⟩)
theorem X4q:(Rows.tableWaysRow.inPlace==Tryz.checked.prog.inPlace 4)=true:=by kernel_rfl
theorem Y6d:(Rows.tableWaysRow.unfollowed==Tryz.checked.prog.unfollowed 4)=true:=by kernel_rfl
theorem X0d:(Rows.tableWaysRow.recurses==Tryz.checked.prog.recurses 4)=true:=by kernel_rfl
theorem V7q:(Rows.tableWaysRow.named==Tryz.checked.prog.varsNamed 4)=true:=by kernel_rfl
theorem V7s:laidOutB Tryz.checked.prog=true:=by kernel_rfl
theorem V7r:mapsRowed Tryz.checked.prog=true:=by kernel_rfl
theorem X7q:joinedFacts Tryz.checked.prog 4 Tryz.f4 Rows.tableWaysSpec Rows.tableWaysRow=true:=by
 unfold joinedFacts
 rw[X4q,Y6d,X0d,V7q,V7s,V7r]
 kernel_rfl
theorem tableWays_holds:Rows.TableWaysSaid:=
 OpenClaim.holds_of_wide 4 Tryz.f4 rfl rfl rfl rfl rfl rfl rfl ⟨rfl,rfl,rfl,rfl,rfl⟩ rfl rfl rfl rfl rfl V2x Tryz.func4 X7q V7t V7p
  (fun os started H enc _=>Y1e os started H enc)
#print axioms tableWays_holds
end Go.Proofs.YtmiolpfanlpfnaaGreat
