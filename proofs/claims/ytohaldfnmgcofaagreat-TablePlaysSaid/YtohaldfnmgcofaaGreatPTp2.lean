/- The statement TablePlaysSaid: for every list of acts that can be read as data, every call of a table, Put, Delete, Get and Commit, answers as it must, and behind each the table lists just the operations that are kept, by rising numbers, and the chapter's example holds: the call returns true, and the argument reads as it did. No conditions. -/
import Derived.Test.YtohaldfnmgcofaaGreatV45
set_option linter.unusedSimpArgs false
set_option linter.unusedVariables false
namespace Go.Proofs.YtohaldfnmgcofaaGreat
open Go.ChangeShapes Go.WideShapes Go.ChangeAt Go.RowKit
theorem V3p:Tryz.checked.prog.funcNamed Rows.tablePlaysRow.func=some 7:=by kernel_rfl
theorem V8i:Tryz.f7.isInstance Tryz.checked.prog Rows.tablePlaysRow.origin Rows.tablePlaysRow.targs:=of_decide_eq_true (by kernel_rfl)
theorem V8e:Tryz.f7.isWrapper Tryz.checked.prog Rows.tablePlaysRow.wrapper Rows.tablePlaysRow.mainSum:=by unfold Func.isWrapper;first | (rw [if_pos (by decide +kernel)];kernel_rfl) | (rw [if_neg (by decide +kernel)];exact⟨rfl,rfl⟩)
theorem X5a:(Rows.tablePlaysRow.inPlace==Tryz.checked.prog.inPlace 7)=true:=by kernel_rfl
theorem Y6s:(Rows.tablePlaysRow.unfollowed==Tryz.checked.prog.unfollowed 7)=true:=by kernel_rfl
theorem X0j:(Rows.tablePlaysRow.recurses==Tryz.checked.prog.recurses 7)=true:=by kernel_rfl
theorem V8f:(Rows.tablePlaysRow.named==Tryz.checked.prog.varsNamed 7)=true:=by kernel_rfl
theorem V8h:laidOutB Tryz.checked.prog=true:=by kernel_rfl
theorem V8g:mapsRowed Tryz.checked.prog=true:=by kernel_rfl
theorem X8c:joinedFacts Tryz.checked.prog 7 Tryz.f7 Rows.tablePlaysSpec Rows.tablePlaysRow=true:=by
 unfold joinedFacts;rw[X5a,Y6s,X0j,V8f,V8h,V8g]
 kernel_rfl
theorem tablePlays_holds:Rows.TablePlaysSaid:=
 OpenClaim.holds_of_wide 7 Tryz.f7 rfl rfl rfl rfl rfl rfl rfl ⟨rfl,rfl,rfl,rfl,rfl⟩ rfl rfl rfl rfl rfl V3p Tryz.func7 X8c V8i V8e
  (fun os started H enc _=>Y0b os started H enc)
#print axioms tablePlays_holds
end Go.Proofs.YtohaldfnmgcofaaGreat
