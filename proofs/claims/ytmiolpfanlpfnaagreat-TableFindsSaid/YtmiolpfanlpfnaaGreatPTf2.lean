/- The statement TableFindsSaid: for every list of acts, every way, every list of numbers and every count that can be read as data, what the table finds behind the acts is what the document says, as many as are asked for, and the chapter's example holds: the call returns true, and the arguments read as they did. No conditions. -/
import Derived.Test.YtmiolpfanlpfnaaGreatU52
set_option linter.unusedSimpArgs false
set_option linter.unusedVariables false
namespace Go.Proofs.YtmiolpfanlpfnaaGreat
open Go.ChangeShapes Go.WideShapes Go.ChangeAt Go.RowKit
theorem V4e:Tryz.checked.prog.funcNamed Rows.tableFindsRow.func=some 3:=by kernel_rfl
theorem V9b:Tryz.f3.isInstance Tryz.checked.prog Rows.tableFindsRow.origin Rows.tableFindsRow.targs:=of_decide_eq_true (by kernel_rfl)
theorem V8x:Tryz.f3.isWrapper Tryz.checked.prog Rows.tableFindsRow.wrapper Rows.tableFindsRow.mainSum:=by unfold Func.isWrapper;first | (rw [if_pos (by decide +kernel)];kernel_rfl) | (rw [if_neg (by decide +kernel)];exact⟨rfl,rfl⟩)
theorem X5r:(Rows.tableFindsRow.inPlace==Tryz.checked.prog.inPlace 3)=true:=by kernel_rfl
theorem Y6s:(Rows.tableFindsRow.unfollowed==Tryz.checked.prog.unfollowed 3)=true:=by kernel_rfl
theorem X1a:(Rows.tableFindsRow.recurses==Tryz.checked.prog.recurses 3)=true:=by kernel_rfl
theorem V8y:(Rows.tableFindsRow.named==Tryz.checked.prog.varsNamed 3)=true:=by kernel_rfl
theorem V9a:laidOutB Tryz.checked.prog=true:=by kernel_rfl
theorem V8z:mapsRowed Tryz.checked.prog=true:=by kernel_rfl
theorem X8s:joinedFacts Tryz.checked.prog 3 Tryz.f3 Rows.tableFindsSpec Rows.tableFindsRow=true:=by
 unfold joinedFacts
 rw[X5r,Y6s,X1a,V8y,V9a,V8z]
 kernel_rfl
theorem tableFinds_holds:Rows.TableFindsSaid:=
 OpenClaim.holds_of_wide 3 Tryz.f3 rfl rfl rfl rfl rfl rfl rfl ⟨rfl,rfl,rfl,rfl,rfl⟩ rfl rfl rfl rfl rfl V4e Tryz.func3 X8s V9b V8x
  (fun os started H enc _=>Y0b os started H enc)
#print axioms tableFinds_holds
end Go.Proofs.YtmiolpfanlpfnaaGreat
