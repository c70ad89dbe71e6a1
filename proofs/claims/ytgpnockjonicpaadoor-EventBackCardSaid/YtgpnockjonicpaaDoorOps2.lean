/- Operations as data. No conditions. -/
/- ref12.Get, ref12.With. Conditions: fewer than 10^9 operations. -/
/- ref10.Ops: the same operations? Conditions: that both can be read. -/
import Derived.Test.YtgpnockjonicpaaDoorBase
import Derived.Test.YtgpnockjonicpaaDoorOwnL
namespace Go.Proofs.YtgpnockjonicpaaDoor
set_option linter.unusedSimpArgs false
set_option linter.unusedVariables false
open Go.RowKit

/-- an operation -/
structure OpD where
  id : Int
  proc : Int
  object : Int
  kind : Int
  method : Int
  arg : Int
  second : Int
  done : Bool
  result : Int
  invoke : Int
  ret : Int
deriving DecidableEq
def OpD.cells (o : OpD) : List Value :=
  [.int .i64 o.id, .int .i64 o.proc, .int .i64 o.object, .int .i64 o.kind, .int .i64 o.method, .int .i64 o.arg, .int .i64 o.second, .bool o.done, .int .i64 o.result, .int .i64 o.invoke, .int .i64 o.ret]
abbrev OpD.val (o : OpD) : Value :=
  .agg #[.int .i64 o.id, .int .i64 o.proc, .int .i64 o.object, .int .i64 o.kind, .int .i64 o.method, .int .i64 o.arg, .int .i64 o.second, .bool o.done, .int .i64 o.result, .int .i64 o.invoke, .int .i64 o.ret]
def ROp (o : OpD) (cs : List Value) : Prop := cs = o.cells
theorem op_len (o : OpD) : o.cells.length = 11 := rfl
theorem op_one (o : OpD) : ∀ u ∈ o.cells, u.oneCell' = true := by
  intro u hu
  simp only [OpD.cells, List.mem_cons, List.not_mem_nil, or_false] at hu
  rcases hu with rfl | rfl | rfl | rfl | rfl | rfl | rfl | rfl | rfl | rfl | rfl <;> rfl

def opZero : OpD := ⟨0, 0, 0, 0, 0, 0, 0, false, 0, 0, 0⟩
/-- eleven cells in a block -/
def At11 (w : World) (b : Nat) (o : OpD) : Prop := (w.cell? ⟨b, 0, none⟩ = some (.int .i64 o.id) ∧ w.cell? ⟨b, 1, none⟩ = some (.int .i64 o.proc) ∧ w.cell? ⟨b, 2, none⟩ = some (.int .i64 o.object) ∧ w.cell? ⟨b, 3, none⟩ = some (.int .i64 o.kind) ∧ w.cell? ⟨b, 4, none⟩ = some (.int .i64 o.method) ∧ w.cell? ⟨b, 5, none⟩ = some (.int .i64 o.arg) ∧ w.cell? ⟨b, 6, none⟩ = some (.int .i64 o.second) ∧ w.cell? ⟨b, 7, none⟩ = some (.bool o.done) ∧ w.cell? ⟨b, 8, none⟩ = some (.int .i64 o.result) ∧ w.cell? ⟨b, 9, none⟩ = some (.int .i64 o.invoke) ∧ w.cell? ⟨b, 10, none⟩ = some (.int .i64 o.ret))
theorem At11.ext {w w' : World} {b : Nat} {o : OpD} (h : At11 w b o) (hb : Ext w w') (hlt : b < w.heap.size) : At11 w' b o := by
  obtain ⟨h0, h1, h2, h3, h4, h5, h6, h7, h8, h9, h10⟩ := h
  have c := fun i => hb.cell (p := ⟨b, i, none⟩) hlt
  exact ⟨(c 0).trans h0, (c 1).trans h1, (c 2).trans h2, (c 3).trans h3, (c 4).trans h4, (c 5).trans h5, (c 6).trans h6, (c 7).trans h7, (c 8).trans h8, (c 9).trans h9, (c 10).trans h10⟩
theorem At11.row {w : World} {b : Nat} {t : TypeId} {o : OpD} (h : Row1 w b t o.cells) : At11 w b o :=
  ⟨h.cell 0, h.cell 1, h.cell 2, h.cell 3, h.cell 4, h.cell 5, h.cell 6, h.cell 7, h.cell 8, h.cell 9, h.cell 10⟩
end Go.Proofs.YtgpnockjonicpaaDoor
namespace Go.Proofs.YtgpnockjonicpaaDoor
set_option linter.unusedSimpArgs false
set_option linter.unusedVariables false
open Go.RowKit

theorem Tryd.infoOp : (Tryd.prog.info? 40).map (fun i => (i.zero, i.size, i.bytes)) = some (some (.agg #[.int .i64 0, .int .i64 0, .int .i64 0, .int .i64 0, .int .i64 0, .int .i64 0, .int .i64 0, .bool false, .int .i64 0, .int .i64 0, .int .i64 0]), 11, 88) := by kernel_rfl
theorem elOp : Elem Tryd.prog 22 40 11 88 := Elem.of Tryd.underlying22 Tryd.infoOp rfl (by decide)
def getL (l : List OpD) (id : Int) : Option OpD := l.find? (fun o => o.id == id)
theorem getL_hit (l : List OpD) (id : Int) (k : Nat) (h : k < l.length) (h1 : l[k].id = id) (h2 : ∀ j (hj : j < k), (l[j]'(by omega)).id ≠ id) : getL l id = some l[k] := by
  unfold getL
  rw [List.find?_eq_some_iff_getElem]
  refine ⟨by simpa using h1, k, h, rfl, fun j hj => by simpa using h2 j hj⟩
theorem getL_miss (l : List OpD) (id : Int) (h : ∀ j (hj : j < l.length), l[j].id ≠ id) : getL l id = none := by
  unfold getL
  rw [List.find?_eq_none]
  intro x hx
  obtain ⟨j, hj, rfl⟩ := List.mem_iff_getElem.1 hx
  simpa using h j hj

end Go.Proofs.YtgpnockjonicpaaDoor
namespace Go.Proofs.YtgpnockjonicpaaDoor
set_option linter.unusedSimpArgs false
set_option linter.unusedVariables false
open Go.RowKit

set_option maxRecDepth 100000 in
set_option maxHeartbeats 800000 in
theorem ops_same (V U : Value) (l : List OpD) (w : World) (hs : Sl w 11 ROp V l) (hu : Sl w 11 ROp U l) :
    Calls Tryd.prog 14 #[V, U] w fun e w' => e = .returned (.bool true) ∧ Ext w w' := by
  obtain ⟨A, c, rfl⟩ := hs.form
  obtain ⟨B, d, rfl⟩ := hu.form
  obtain ⟨_, hc1, hc2, hA⟩ := hs.at
  obtain ⟨_, hd1, hd2, hB⟩ := hu.at
  have HA := Lib.hid hA
  have HB := Lib.hid hB
  clear hs hu hA hB
  go_enter Tryd.func14, Tryd.ntmps14
  go_wp2_with fail
  go_loopw [5] (fun i wr => ∃ k : Nat, k ≤ l.length ∧ i = .int .i64 k ∧ ∃ q, wr = w.drewN q) (fun i _ => l.length - (intOf i).toNat)
  case atStart => exact ⟨0, by omega, rfl, 0, rfl⟩
  case round =>
    obtain ⟨k, hk, rfl, q, rfl⟩ := hrel
    by_cases hlt : k < l.length
    · have hdk : decide ((k : Int) < (l.length : Int)) = true := by simp; omega
      obtain ⟨b, off, rfl, hbl, hx⟩ := HA.out (by omega)
      obtain ⟨b', off', rfl, hbl', hx'⟩ := HB.out (by omega)
      obtain ⟨cs, rfl, _, hcs⟩ := hx k hlt
      obtain ⟨cs', rfl, _, hcs'⟩ := hx' k hlt
      have h0 := hcs 0 _ rfl
      have h1 := hcs 1 _ rfl
      have h2 := hcs 2 _ rfl
      have h3 := hcs 3 _ rfl
      have h4 := hcs 4 _ rfl
      have h5 := hcs 5 _ rfl
      have h6 := hcs 6 _ rfl
      have h7 := hcs 7 _ rfl
      have h8 := hcs 8 _ rfl
      have h9 := hcs 9 _ rfl
      have h10 := hcs 10 _ rfl
      have g0 := hcs' 0 _ rfl
      have g1 := hcs' 1 _ rfl
      have g2 := hcs' 2 _ rfl
      have g3 := hcs' 3 _ rfl
      have g4 := hcs' 4 _ rfl
      have g5 := hcs' 5 _ rfl
      have g6 := hcs' 6 _ rfl
      have g7 := hcs' 7 _ rfl
      have g8 := hcs' 8 _ rfl
      have g9 := hcs' 9 _ rfl
      have g10 := hcs' 10 _ rfl
      simp only [Nat.add_zero] at h0 g0
      clear hx hcs hx' hcs'
      generalize l[k] = o at *
      go_wp2_with fail
      go_quiet (fail)
      go_wp2_with fail
      go_roundw
      case rel => exact ⟨k + 1, by omega, by go_num, _, rfl⟩
      case measure => simp [intOf]; omega
    · obtain rfl : k = l.length := by omega
      have hdk : decide ((l.length : Int) < (l.length : Int)) = false := by simp
      go_wp2_with fail
      go_ret
      exact ⟨rfl, by (repeat' (with_reducible first | exact Below.refl _ _ | refine Ext.drewN ?_ _ | refine Below.drew ?_ | refine Below.setCell ?_ ?_ _ | refine Below.alloc ?_ ?_ _)) <;> (first | omega | (simp; done) | (simp; omega))⟩
end Go.Proofs.YtgpnockjonicpaaDoor
