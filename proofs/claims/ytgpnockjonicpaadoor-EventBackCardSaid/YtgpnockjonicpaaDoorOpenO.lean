/- Arguments that are read: lists of operations. No conditions. -/
import Derived.Test.YtgpnockjonicpaaDoorOpen0
import Derived.Test.YtgpnockjonicpaaDoorOps2
namespace Go.Proofs.YtgpnockjonicpaaDoor
set_option linter.unusedSimpArgs false
set_option linter.unusedVariables false
open Go.ChangeShapes Go.WideShapes Go.ChangeAt Go.RowKit

/-- all numbers of an operation are such as an int holds -/
structure OpW (o : OpD) : Prop where
  id : (Lit.int .i64 o.id).wf = true
  proc : (Lit.int .i64 o.proc).wf = true
  object : (Lit.int .i64 o.object).wf = true
  kind : (Lit.int .i64 o.kind).wf = true
  method : (Lit.int .i64 o.method).wf = true
  arg : (Lit.int .i64 o.arg).wf = true
  second : (Lit.int .i64 o.second).wf = true
  result : (Lit.int .i64 o.result).wf = true
  invoke : (Lit.int .i64 o.invoke).wf = true
  ret : (Lit.int .i64 o.ret).wf = true

section
variable {H : Type} {enc : TypeId × Value → H} {w : World} {spare : Nat → Bool} {held : Bool}
theorem Tryd.op11 : Tryd.prog.cellsOf 40 = 11 := by kernel_rfl
theorem Tryd.cBool : Tryd.prog.cellsOf 4 = 1 := by kernel_rfl

set_option maxRecDepth 100000 in
theorem open_op (fuel : Nat) {cs : List Value} {x : DataW H × List MemPlace} (h : DataW.trod enc Tryd.prog w 0 spare held fuel 40 cs = some x) : ∃ o : OpD, ROp o cs ∧ OpW o := by
  obtain ⟨xs, k, rfl, _, hcl, hxl, hg⟩ := DataW.trod_struct Tryd.underlying40 h
  rw [Tryd.op11] at hcl
  match cs, hcl, xs, hxl with
  | [c0, c1, c2, c3, c4, c5, c6, c7, c8, c9, c10], _, [y0, y1, y2, y3, y4, y5, y6, y7, y8, y9, y10], _ =>
    have g0 := hg 0 _ rfl
    have g1 := hg 1 _ rfl
    have g2 := hg 2 _ rfl
    have g3 := hg 3 _ rfl
    have g4 := hg 4 _ rfl
    have g5 := hg 5 _ rfl
    have g6 := hg 6 _ rfl
    have g7 := hg 7 _ rfl
    have g8 := hg 8 _ rfl
    have g9 := hg 9 _ rfl
    have g10 := hg 10 _ rfl
    clear hg h hxl hcl
    simp [Tryd.cInt, Tryd.cBool] at g0 g1 g2 g3 g4 g5 g6 g7 g8 g9 g10
    obtain ⟨n0, e0, _, w0⟩ := DataW.trod_int Tryd.underlying3 g0
    obtain ⟨n1, e1, _, w1⟩ := DataW.trod_int Tryd.underlying3 g1
    obtain ⟨n2, e2, _, w2⟩ := DataW.trod_int Tryd.underlying3 g2
    obtain ⟨n3, e3, _, w3⟩ := DataW.trod_int Tryd.underlying3 g3
    obtain ⟨n4, e4, _, w4⟩ := DataW.trod_int Tryd.underlying3 g4
    obtain ⟨n5, e5, _, w5⟩ := DataW.trod_int Tryd.underlying3 g5
    obtain ⟨n6, e6, _, w6⟩ := DataW.trod_int Tryd.underlying3 g6
    obtain ⟨n7, e7, _⟩ := DataW.trod_bool Tryd.underlying4 g7
    obtain ⟨n8, e8, _, w8⟩ := DataW.trod_int Tryd.underlying3 g8
    obtain ⟨n9, e9, _, w9⟩ := DataW.trod_int Tryd.underlying3 g9
    obtain ⟨n10, e10, _, w10⟩ := DataW.trod_int Tryd.underlying3 g10
    simp only [List.cons.injEq, and_true] at e0 e1 e2 e3 e4 e5 e6 e7 e8 e9 e10
    subst e0 e1 e2 e3 e4 e5 e6 e7 e8 e9 e10
    exact ⟨⟨n0, n1, n2, n3, n4, n5, n6, n7, n8, n9, n10⟩, rfl, ⟨w0, w1, w2, w3, w4, w5, w6, w8, w9, w10⟩⟩
/-- a list of operations -/
theorem open_ops {fuel : Nat} {cs : List Value} {x : DataW H × List MemPlace} (h : DataW.trod enc Tryd.prog w 0 spare held fuel 22 cs = some x) : ∃ v l, cs = [v] ∧ Sl w 11 ROp v l ∧ ∀ o ∈ l, OpW o := by
  obtain ⟨v, l, e, hs⟩ := open_sl (fun (o : OpD) cs => ROp o cs ∧ OpW o) Tryd.underlying22 Tryd.op11 (by omega) (fun m cs x _ hx => open_op m hx) h
  exact ⟨v, l, e, hs.mono (fun _ _ h => h.1), fun o ho => by obtain ⟨_, _, h⟩ := hs.all o ho; exact h⟩
end
end Go.Proofs.YtgpnockjonicpaaDoor
