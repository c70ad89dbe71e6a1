/- The statement TableRangesSaid: for every list of acts, every way, every list of numbers and every range of the next one that can be read as data, what the table finds behind the acts is what the document says, and the first one alone where no more are wanted, and the chapter's example holds: the call returns true, and the arguments read as they did. No conditions. -/
import Derived.Test.YtmiolpfanlpfnaaGreatW49
set_option linter.unusedSimpArgs false
set_option linter.unusedVariables false
namespace Go.Proofs.YtmiolpfanlpfnaaGreat
open Go.ChangeShapes Go.WideShapes Go.ChangeAt Go.RowKit
theorem V4t:Tryz.checked.prog.funcNamed Rows.tableRangesRow.func=some 5:=by kernel_rfl
theorem V9p:Tryz.f5.isInstance Tryz.checked.prog Rows.tableRangesRow.origin Rows.tableRangesRow.targs:=of_decide_eq_true (by kernel_rfl)
theorem V9l:Tryz.f5.isWrapper Tryz.checked.prog Rows.tableRangesRow.wrapper Rows.tableRangesRow.mainSum:=by unfold Func.isWrapper;first | (rw [if_pos (by decide +kernel)];kernel_rfl) | (rw [if_neg (by decide +kernel)];exact⟨rfl,rfl⟩)
theorem X5z:(Rows.tableRangesRow.inPlace==Tryz.checked.prog.inPlace 5)=true:=by kernel_rfl
theorem Y7b:(Rows.tableRangesRow.unfollowed==Tryz.checked.prog.unfollowed 5)=true:=by kernel_rfl
theorem X1k:(Rows.tableRangesRow.recurses==Tryz.checked.prog.recurses 5)=true:=by kernel_rfl
theorem V9m:(Rows.tableRangesRow.named==Tryz.checked.prog.varsNamed 5)=true:=by kernel_rfl
theorem V9o:laidOutB Tryz.checked.prog=true:=by kernel_rfl
theorem V9n:mapsRowed Tryz.checked.prog=true:=by kernel_rfl
theorem X9i:joinedFacts Tryz.checked.prog 5 Tryz.f5 Rows.tableRangesSpec Rows.tableRangesRow=true:=by
 unfold joinedFacts;rw[X5z,Y7b,X1k,V9m,V9o,V9n]
 kernel_rfl
theorem tableRanges_holds:Rows.TableRangesSaid:=
 OpenClaim.holds_of_wide 5 Tryz.f5 rfl rfl rfl rfl rfl rfl rfl ⟨rfl,rfl,rfl,rfl,rfl⟩ rfl rfl rfl rfl rfl V4t Tryz.func5 X9i V9p V9l
  (fun os started H enc _=>Z9k os started H enc)
#print axioms tableRanges_holds
end Go.Proofs.YtmiolpfanlpfnaaGreat
