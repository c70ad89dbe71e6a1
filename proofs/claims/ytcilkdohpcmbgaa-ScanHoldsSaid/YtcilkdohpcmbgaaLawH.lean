/- The law ScanHolds answers true for all operations, conditions and queries that can be read. Conditions: what a reading gives. -/
import Derived.Test.YtcilkdohpcmbgaaScan9
import Derived.Test.YtcilkdohpcmbgaaHolds3
import Derived.Test.YtcilkdohpcmbgaaRun2
import Derived.Test.YtcilkdohpcmbgaaSorted3
import Derived.Test.YtcilkdohpcmbgaaOps2
import Derived.Test.YtcilkdohpcmbgaaWith2
import Derived.Shelf.Abstract
namespace Go.Proofs.Ytcilkdohpcmbgaa
set_option linter.unusedSimpArgs false
set_option linter.unusedVariables false
open Go.RowKit

theorem OwnL.but {α : Type} {w w' : World} {base k g : Nat} {e : TypeId} {enc : α → List Value} {v : Value} {xs : List α} (h : OwnL w base e k enc v xs) (hb : But g w w') (hg : g < base) : OwnL w' base e k enc v xs :=
  World.ownsRow.kept h hb (.inr (fun e => by have := h.lt g e; omega))

set_option maxRecDepth 100000 in
theorem getClo_any (V : Value) (l : List OpD) (bo : Nat) (id : Int) (w : World) (hc : w.cell? ⟨bo, 0, none⟩ = some V) (hs : Sl w 11 ROp V l) :
    Calls Try.prog 18 #[.int .i64 id, .pointer (some ⟨bo, 0, none⟩)] w fun e w' => (∃ p : OpD, e = .returned (.tuple #[p.val, .bool (getL l id).isSome]) ∧ ∀ q, getL l id = some q → p = q) ∧ Ext w w' := by
  obtain ⟨A, c, rfl⟩ := hs.form
  have HS := Lib.hid hs
  have hbo := World.block_lt_of_cell? _ _ hc
  simp only [] at hbo
  obtain ⟨p, hp⟩ : ∃ p, (getL l id).getD opZero = p := ⟨_, rfl⟩
  have HP := Lib.hid hp
  have HPQ : Hid (∀ q, getL l id = some q → p = q) := fun q hq => by rw [← hp, hq]; rfl
  clear hs hp
  go_enter Try.func18, Try.ntmps18
  go_wp2_with fail
  refine (refGet_any _ l id _ (HS.out.ext (by (repeat' (with_reducible first | exact Below.refl _ _ | refine Ext.drewN ?_ _ | refine Below.drew ?_ | refine Below.setCell ?_ ?_ _ | refine Below.alloc ?_ ?_ _)) <;> (first | omega | (simp; done) | (simp; omega))))).mono ?_
  rintro e w1 ⟨rfl, hb1⟩
  rw [HP.out]
  have hb := Lib.hid (Ext.trans (by (repeat' (with_reducible first | exact Below.refl _ _ | refine Ext.drewN ?_ _ | refine Below.drew ?_ | refine Below.setCell ?_ ?_ _ | refine Below.alloc ?_ ?_ _)) <;> (first | omega | (simp; done) | (simp; omega)) : Ext w _) hb1)
  have hz1 := hb1.size
  simp at hz1
  have hlt0 : w.heap.size < w1.heap.size := by omega
  have hrow := Lib.hid ((Row1.made w 58 opZero.cells).ext hb1 (by simp))
  have c0 : w1.cell? ⟨w.heap.size, 0, none⟩ = some (.int .i64 0) := hrow.out.cell 0
  have c1 : w1.cell? ⟨w.heap.size, 1, none⟩ = some (.int .i64 0) := hrow.out.cell 1
  have c2 : w1.cell? ⟨w.heap.size, 2, none⟩ = some (.int .i64 0) := hrow.out.cell 2
  have c3 : w1.cell? ⟨w.heap.size, 3, none⟩ = some (.int .i64 0) := hrow.out.cell 3
  have c4 : w1.cell? ⟨w.heap.size, 4, none⟩ = some (.int .i64 0) := hrow.out.cell 4
  have c5 : w1.cell? ⟨w.heap.size, 5, none⟩ = some (.int .i64 0) := hrow.out.cell 5
  have c6 : w1.cell? ⟨w.heap.size, 6, none⟩ = some (.int .i64 0) := hrow.out.cell 6
  have c7 : w1.cell? ⟨w.heap.size, 7, none⟩ = some (.bool false) := hrow.out.cell 7
  have c8 : w1.cell? ⟨w.heap.size, 8, none⟩ = some (.int .i64 0) := hrow.out.cell 8
  have c9 : w1.cell? ⟨w.heap.size, 9, none⟩ = some (.int .i64 0) := hrow.out.cell 9
  have c10 : w1.cell? ⟨w.heap.size, 10, none⟩ = some (.int .i64 0) := hrow.out.cell 10
  have f0 := fun i => hrow.out.soft i
  clear hb1
  go_wp2_with fail
  have HR := Lib.hid (show Row1 (((((((((((w1.setCell ⟨w.heap.size, 0, none⟩ (.int .i64 p.id)).setCell ⟨w.heap.size, 1, none⟩ (.int .i64 p.proc)).setCell ⟨w.heap.size, 2, none⟩ (.int .i64 p.object)).setCell ⟨w.heap.size, 3, none⟩ (.int .i64 p.kind)).setCell ⟨w.heap.size, 4, none⟩ (.int .i64 p.method)).setCell ⟨w.heap.size, 5, none⟩ (.int .i64 p.arg)).setCell ⟨w.heap.size, 6, none⟩ (.int .i64 p.second)).setCell ⟨w.heap.size, 7, none⟩ (.bool p.done)).setCell ⟨w.heap.size, 8, none⟩ (.int .i64 p.result)).setCell ⟨w.heap.size, 9, none⟩ (.int .i64 p.invoke)).setCell ⟨w.heap.size, 10, none⟩ (.int .i64 p.ret)) w.heap.size 58 p.cells from (((((((((((hrow.out.set 0 (.int .i64 p.id)).set 1 (.int .i64 p.proc)).set 2 (.int .i64 p.object)).set 3 (.int .i64 p.kind)).set 4 (.int .i64 p.method)).set 5 (.int .i64 p.arg)).set 6 (.int .i64 p.second)).set 7 (.bool p.done)).set 8 (.int .i64 p.result)).set 9 (.int .i64 p.invoke)).set 10 (.int .i64 p.ret)))
  have d0 := HR.out.cell 0
  have d1 := HR.out.cell 1
  have d2 := HR.out.cell 2
  have d3 := HR.out.cell 3
  have d4 := HR.out.cell 4
  have d5 := HR.out.cell 5
  have d6 := HR.out.cell 6
  have d7 := HR.out.cell 7
  have d8 := HR.out.cell 8
  have d9 := HR.out.cell 9
  have d10 := HR.out.cell 10
  simp only [OpD.cells, List.getElem?_cons_zero, List.getElem?_cons_succ] at d0 d1 d2 d3 d4 d5 d6 d7 d8 d9 d10
  refine bodyPost_ret (v := .tuple #[p.val, .bool (getL l id).isSome]) (by simp [results, Try.results18, go_sem, d0, d1, d2, d3, d4, d5, d6, d7, d8, d9, d10]) rfl ⟨⟨p, rfl, HPQ.out⟩, by (repeat' (with_reducible first | exact hb.out | exact Below.refl _ _ | refine Ext.drewN ?_ _ | refine Below.drew ?_ | refine Below.setCell ?_ ?_ _ | refine Below.alloc ?_ ?_ _)) <;> (first | omega | (simp; done) | (simp; omega))⟩
end Go.Proofs.Ytcilkdohpcmbgaa
