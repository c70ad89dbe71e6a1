/- ref26.read. Conditions: words of fewer than 10^6 bytes. -/
import Derived.Test.YtgpnockjonicpaaDoorRPar3
namespace Go.Proofs.YtgpnockjonicpaaDoor
set_option linter.unusedSimpArgs false
set_option linter.unusedVariables false
open Go.RowKit

/-- what ref26.read makes of a line's words -/
def refReadW (ws : List ByteArray) : EvD := if hd ws 2 = txAnswer then evAns ws else evInv ws (if 0 < argsN (methV ws) then numV (hd ws 7) else 0) (if 1 < argsN (methV ws) then numV (hd ws 8) else 0)
theorem kindZ : ∀ j, 1 ≤ j → j < kindNames.length → kindNames.getD j ByteArray.empty ≠ ⟨#[]⟩ := by
  intro j h1 h2
  have h3 : j < 7 := h2
  have : j = 1 ∨ j = 2 ∨ j = 3 ∨ j = 4 ∨ j = 5 ∨ j = 6 := by omega
  rcases this with rfl | rfl | rfl | rfl | rfl | rfl <;> decide
theorem methZ : ∀ j, 1 ≤ j → j < methNames.length → methNames.getD j ByteArray.empty ≠ ⟨#[]⟩ := by
  intro j h1 h2
  have h3 : j < 15 := h2
  have : j = 1 ∨ j = 2 ∨ j = 3 ∨ j = 4 ∨ j = 5 ∨ j = 6 ∨ j = 7 ∨ j = 8 ∨ j = 9 ∨ j = 10 ∨ j = 11 ∨ j = 12 ∨ j = 13 ∨ j = 14 := by omega
  rcases this with rfl | rfl | rfl | rfl | rfl | rfl | rfl | rfl | rfl | rfl | rfl | rfl | rfl | rfl <;> decide
theorem refW_ans (ws : List ByteArray) (h : hd ws 2 = txAnswer) : refReadW ws = ⟨numV (hd ws 0), numV (hd ws 1), true, numV (hd ws 3), 0, 0, 0, 0, 0, numV (hd ws 4)⟩ := by unfold refReadW; rw [if_pos h]; rfl
theorem refW_inv (ws : List ByteArray) (h : ¬ hd ws 2 = txAnswer) : refReadW ws = ⟨numV (hd ws 0), numV (hd ws 1), false, numV (hd ws 3), numV (hd ws 4), wordV kindNames (hd ws 5), wordV methNames (hd ws 6), (if 0 < argsN (wordV methNames (hd ws 6)) then numV (hd ws 7) else 0), (if 1 < argsN (wordV methNames (hd ws 6)) then numV (hd ws 8) else 0), 0⟩ := by unfold refReadW; rw [if_neg h]; rfl
end Go.Proofs.YtgpnockjonicpaaDoor
