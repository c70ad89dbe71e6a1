/- The statement TableSoundSaid: for every list of acts that can be read as data, behind each of a table's first thirty nothing is out of order, and its pages are just as many as the pager has given out, and the chapter's example holds: the call returns true, and the argument reads as it did. No conditions. -/
import Derived.Test.YtohaldfnmgcofaaGreatW47
set_option linter.unusedSimpArgs false
set_option linter.unusedVariables false
namespace Go.Proofs.YtohaldfnmgcofaaGreat
open Go.ChangeShapes Go.WideShapes Go.ChangeAt Go.RowKit
theorem V4u:Tryz.checked.prog.funcNamed Rows.tableSoundRow.func=some 9:=by kernel_rfl
theorem V9q:Tryz.f9.isInstance Tryz.checked.prog Rows.tableSoundRow.origin Rows.tableSoundRow.targs:=of_decide_eq_true (by kernel_rfl)
theorem V9m:Tryz.f9.isWrapper Tryz.checked.prog Rows.tableSoundRow.wrapper Rows.tableSoundRow.mainSum:=by unfold Func.isWrapper;first | (rw [if_pos (by decide +kernel)];kernel_rfl) | (rw [if_neg (by decide +kernel)];exact⟨rfl,rfl⟩)
theorem X6g:(Rows.tableSoundRow.inPlace==Tryz.checked.prog.inPlace 9)=true:=by kernel_rfl
theorem Y7j:(Rows.tableSoundRow.unfollowed==Tryz.checked.prog.unfollowed 9)=true:=by kernel_rfl
theorem X1g:(Rows.tableSoundRow.recurses==Tryz.checked.prog.recurses 9)=true:=by kernel_rfl
theorem V9n:(Rows.tableSoundRow.named==Tryz.checked.prog.varsNamed 9)=true:=by kernel_rfl
theorem V9p:laidOutB Tryz.checked.prog=true:=by kernel_rfl
theorem V9o:mapsRowed Tryz.checked.prog=true:=by kernel_rfl
theorem X9g:joinedFacts Tryz.checked.prog 9 Tryz.f9 Rows.tableSoundSpec Rows.tableSoundRow=true:=by
 unfold joinedFacts;rw[X6g,Y7j,X1g,V9n,V9p,V9o]
 kernel_rfl
theorem tableSound_holds:Rows.TableSoundSaid:=
 OpenClaim.holds_of_wide 9 Tryz.f9 rfl rfl rfl rfl rfl rfl rfl ⟨rfl,rfl,rfl,rfl,rfl⟩ rfl rfl rfl rfl rfl V4u Tryz.func9 X9g V9q V9m
  (fun os started H enc _=>Y0t os started H enc)
#print axioms tableSound_holds
end Go.Proofs.YtohaldfnmgcofaaGreat
