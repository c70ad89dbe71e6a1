/- Arguments that are read: lists of events. No conditions. -/
import Derived.Test.YtgpnockjonicpaaGreatDoorOpen0
import Derived.Test.YtgpnockjonicpaaGreatDoorJoin4
namespace Go.Proofs.YtgpnockjonicpaaGreatDoor
set_option linter.unusedSimpArgs false
set_option linter.unusedVariables false
open Go.ChangeShapes Go.WideShapes Go.ChangeAt Go.RowKit

section
variable {H : Type} {enc : TypeId × Value → H} {w : World} {spare : Nat → Bool} {held : Bool}
theorem Tryz.rev10 : Tryz.prog.cellsOf 57 = 10 := by kernel_rfl
theorem Tryz.cBoolE : Tryz.prog.cellsOf 4 = 1 := by kernel_rfl

set_option maxRecDepth 100000 in
theorem open_rev (fuel : Nat) {cs : List Value} {x : DataW H × List MemPlace} (h : DataW.trod enc Tryz.prog w 0 spare held fuel 57 cs = some x) : ∃ o : EvD, REv o cs ∧ EvOk o := by
  obtain ⟨xs, k, rfl, _, hcl, hxl, hg⟩ := DataW.trod_struct Tryz.underlying57 h
  rw [Tryz.rev10] at hcl
  match cs, hcl, xs, hxl with
  | [c0, c1, c2, c3, c4, c5, c6, c7, c8, c9], _, [y0, y1, y2, y3, y4, y5, y6, y7, y8, y9], _ =>
    have g0 := hg 0 _ rfl
    have g1 := hg 1 _ rfl
    have g2 := hg 2 _ rfl
    have g3 := hg 3 _ rfl
    have g4 := hg 4 _ rfl
    have g5 := hg 5 _ rfl
    have g6 := hg 6 _ rfl
    have g7 := hg 7 _ rfl
    have g8 := hg 8 _ rfl
    have g9 := hg 9 _ rfl
    clear hg h hxl hcl
    simp [Tryz.cInt, Tryz.cBoolE] at g0 g1 g2 g3 g4 g5 g6 g7 g8 g9
    obtain ⟨n0, e0, _, w0⟩ := DataW.trod_int Tryz.underlying3 g0
    obtain ⟨n1, e1, _, w1⟩ := DataW.trod_int Tryz.underlying3 g1
    obtain ⟨n2, e2, _⟩ := DataW.trod_bool Tryz.underlying4 g2
    obtain ⟨n3, e3, _, w3⟩ := DataW.trod_int Tryz.underlying3 g3
    obtain ⟨n4, e4, _, w4⟩ := DataW.trod_int Tryz.underlying3 g4
    obtain ⟨n5, e5, _, w5⟩ := DataW.trod_int Tryz.underlying3 g5
    obtain ⟨n6, e6, _, w6⟩ := DataW.trod_int Tryz.underlying3 g6
    obtain ⟨n7, e7, _, w7⟩ := DataW.trod_int Tryz.underlying3 g7
    obtain ⟨n8, e8, _, w8⟩ := DataW.trod_int Tryz.underlying3 g8
    obtain ⟨n9, e9, _, w9⟩ := DataW.trod_int Tryz.underlying3 g9
    simp only [List.cons.injEq, and_true] at e0 e1 e2 e3 e4 e5 e6 e7 e8 e9
    subst e0 e1 e2 e3 e4 e5 e6 e7 e8 e9
    have hb := bounds64 w9
    exact ⟨⟨n0, n1, n2, n3, n4, n5, n6, n7, n8, n9⟩, rfl, w1, w3, hb.1, hb.2⟩
/-- a list of events -/
theorem open_revs {fuel : Nat} {cs : List Value} {x : DataW H × List MemPlace} (h : DataW.trod enc Tryz.prog w 0 spare held fuel 22 cs = some x) : ∃ v l, cs = [v] ∧ Sl w 10 REv v l ∧ ∀ o ∈ l, EvOk o := by
  obtain ⟨v, l, e, hs⟩ := open_sl (fun (o : EvD) cs => REv o cs ∧ EvOk o) Tryz.underlying22 Tryz.rev10 (by omega) (fun m cs x _ hx => open_rev m hx) h
  exact ⟨v, l, e, hs.mono (fun _ _ h => h.1), fun o ho => by obtain ⟨_, _, h⟩ := hs.all o ho; exact h⟩
end
end Go.Proofs.YtgpnockjonicpaaGreatDoor
