/- event.joiner.take. Conditions: numbers that an int holds, fewer than 10^6 events. -/
import Derived.Test.YtgpnockjonicpaaDoorJoin4
import Derived.Test.YtgpnockjonicpaaDoorEv3
namespace Go.Proofs.YtgpnockjonicpaaDoor
set_option linter.unusedSimpArgs false
set_option linter.unusedVariables false
open Go.RowKit

/-- an event taken -/
def takeS (p : Option EvD) (l : List OpD) (x : EvD) : List OpD × Int := if lateB p x = true then (l, 31) else stepL l x

set_option maxRecDepth 100000 in
set_option maxHeartbeats 8000000 in
theorem take_any (p : Option EvD) (j mo mq n : Nat) (last : EvD) (M : Int → Option OpD) (Q : Int → Option Int) (l : List OpD) (x : EvD) (w : World) (hp : ∀ q, p = some q → q = last) (hJ : JAt w j mo mq n last M Q) (hR : JRel l M Q) (hn : n ≤ 1000000) (hx : EvOk x) :
    Calls Tryd.prog 21 #[.pointer (some ⟨j, 0, none⟩), x.val, .bool p.isNone] w (JPost w j mo mq n x (takeS p l x)) := by
  have HJ := Lib.hid hJ
  have HR := Lib.hid hR
  have HX := Lib.hid hx
  have HLT := Lib.hid hJ.lt
  have hltj := hJ.lt.1
  have HNE := Lib.hid hJ.ne
  have HP := Lib.hid hp
  obtain ⟨late, hlate⟩ : ∃ b, lateB p x = b := ⟨_, rfl⟩
  have HST : Hid (takeS p l x = if late = true then (l, 31) else stepL l x) := by unfold Hid takeS; rw [hlate]
  have HLA := Lib.hid hlate
  have HJW : Hid (∀ W : World, Ext (w.alloc (.cells #[.int .i64 x.time, .int .i64 x.proc, .bool x.answer, .int .i64 x.id, .int .i64 x.object, .int .i64 x.kind, .int .i64 x.method, .int .i64 x.arg, .int .i64 x.second, .int .i64 x.result] 42)) W → Ext w W) := fun W h => Ext.trans (Ext.alloc _ _) h
  have HBX : Hid (∀ W : World, Ext (w.alloc (.cells #[.int .i64 x.time, .int .i64 x.proc, .bool x.answer, .int .i64 x.id, .int .i64 x.object, .int .i64 x.kind, .int .i64 x.method, .int .i64 x.arg, .int .i64 x.second, .int .i64 x.result] 42)) W → At10 W w.heap.size x) := fun W h => (At10.row (Row1.made w 42 x.cells)).ext h (by simp)
  have HJC : Hid (∀ W : World, Ext w W → W.cell? ⟨j, 0, none⟩ = some (.map (some mo)) ∧ W.cell? ⟨j, 1, none⟩ = some (.map (some mq)) ∧ W.cell? ⟨j, 2, none⟩ = some (.int .i64 last.time) ∧ W.cell? ⟨j, 2 + 1, none⟩ = some (.int .i64 last.proc) ∧ W.cell? ⟨j, 2 + 2, none⟩ = some (.bool last.answer) ∧ W.cell? ⟨j, 2 + 3, none⟩ = some (.int .i64 last.id) ∧ W.cell? ⟨j, 2 + 4, none⟩ = some (.int .i64 last.object) ∧ W.cell? ⟨j, 2 + 5, none⟩ = some (.int .i64 last.kind) ∧ W.cell? ⟨j, 2 + 6, none⟩ = some (.int .i64 last.method) ∧ W.cell? ⟨j, 2 + 7, none⟩ = some (.int .i64 last.arg) ∧ W.cell? ⟨j, 2 + 8, none⟩ = some (.int .i64 last.second) ∧ W.cell? ⟨j, 2 + 9, none⟩ = some (.int .i64 last.result)) := fun W h => by
    have h1 := (hJ.ext h).1.cell
    exact ⟨h1 0, h1 1, h1 2, h1 3, h1 4, h1 5, h1 6, h1 7, h1 8, h1 9, h1 10, h1 11⟩
  clear hJ hR hx hlate hp
  go_enter Tryd.func21, Tryd.ntmps21
  go_upto_region 1 with fail
  go_cut [23] (fun s wx => s = .bool late ∧ Ext (w.alloc (.cells #[.int .i64 x.time, .int .i64 x.proc, .bool x.answer, .int .i64 x.id, .int .i64 x.object, .int .i64 x.kind, .int .i64 x.method, .int .i64 x.arg, .int .i64 x.second, .int .i64 x.result] 42)) wx)
  case first =>
    cases p with
    | none =>
      have HN3 : Hid (late = false) := by rw [← HLA.out]; rfl
      refine wp_region_held_drew (S := fun W => True) (by kernel_rfl) (trivial) (fun hHeld => ?_)
      refine' wpAnyH_take (i := 0) (oi := ?zoi0a) (v := ?zv0a) ?zhi0a (by kernel_rfl) (by kernel_rfl) (by kernel_rfl) ?zhQ0a (Or.inl ⟨?zhw0a, ?zhy0a⟩) (by assumption) ?zrest0a; (case zhi0a => simp only [List.getElem?_toArray, List.getElem?_cons_succ, List.getElem?_cons_zero]; exact rfl); (case zhQ0a => exact fun _ _ _ h => h); (case zhw0a => rfl); (case zhy0a => intro w hSw; (try dsimp only at hSw); go_simp; (try with_reducible rfl)); (try simp only [Act.put, List.setIfInBounds_toArray, List.set_cons_zero, List.set_cons_succ])
      refine' wpAnyH_take (i := 1) (oi := ?zoi1a) (v := ?zv1a) ?zhi1a (by kernel_rfl) (by kernel_rfl) (by kernel_rfl) ?zhQ1a (Or.inl ⟨?zhw1a, ?zhy1a⟩) (by assumption) ?zrest1a; (case zhi1a => simp only [List.getElem?_toArray, List.getElem?_cons_succ, List.getElem?_cons_zero]; exact rfl); (case zhQ1a => exact fun _ _ _ h => h); (case zhw1a => rfl); (case zhy1a => intro w hSw; (try dsimp only at hSw); go_simp; (try with_reducible rfl)); (try simp only [Act.put, List.setIfInBounds_toArray, List.set_cons_zero, List.set_cons_succ])
      refine' wpAnyH_take (i := 2) (oi := ?zoi2a) (v := ?zv2a) ?zhi2a (by kernel_rfl) (by kernel_rfl) (by kernel_rfl) ?zhQ2a (Or.inl ⟨?zhw2a, ?zhy2a⟩) (by assumption) ?zrest2a; (case zhi2a => simp only [List.getElem?_toArray, List.getElem?_cons_succ, List.getElem?_cons_zero]; exact rfl); (case zhQ2a => exact fun _ _ _ h => h); (case zhw2a => rfl); (case zhy2a => intro w hSw; (try dsimp only at hSw); go_simp; (try with_reducible rfl)); (try simp only [Act.put, List.setIfInBounds_toArray, List.set_cons_zero, List.set_cons_succ])
      refine' wpAnyH_take (i := 3) (oi := ?zoi3a) (v := undef) ?zhi3a (by kernel_rfl) (by kernel_rfl) (by kernel_rfl) ?zhQ3a (Or.inr ⟨?zhw3a, rfl⟩) (by assumption) ?zrest3a; (case zhi3a => simp only [List.getElem?_toArray, List.getElem?_cons_succ, List.getElem?_cons_zero]; exact rfl); (case zhQ3a => exact fun _ _ _ h => h); (case zhw3a => rfl); (try simp only [Act.put, List.setIfInBounds_toArray, List.set_cons_zero, List.set_cons_succ])
      refine' wpAnyH_take (i := 4) (oi := ?zoi4a) (v := undef) ?zhi4a (by kernel_rfl) (by kernel_rfl) (by kernel_rfl) ?zhQ4a (Or.inr ⟨?zhw4a, rfl⟩) (by assumption) ?zrest4a; (case zhi4a => simp only [List.getElem?_toArray, List.getElem?_cons_succ, List.getElem?_cons_zero]; exact rfl); (case zhQ4a => exact fun _ _ _ h => h); (case zhw4a => rfl); (try simp only [Act.put, List.setIfInBounds_toArray, List.set_cons_zero, List.set_cons_succ])
      refine' wpAnyH_take (i := 5) (oi := ?zoi5a) (v := undef) ?zhi5a (by kernel_rfl) (by kernel_rfl) (by kernel_rfl) ?zhQ5a (Or.inr ⟨?zhw5a, rfl⟩) (by assumption) ?zrest5a; (case zhi5a => simp only [List.getElem?_toArray, List.getElem?_cons_succ, List.getElem?_cons_zero]; exact rfl); (case zhQ5a => exact fun _ _ _ h => h); (case zhw5a => rfl); (try simp only [Act.put, List.setIfInBounds_toArray, List.set_cons_zero, List.set_cons_succ])
      refine' wpAnyH_take (i := 6) (oi := ?zoi6a) (v := undef) ?zhi6a (by kernel_rfl) (by kernel_rfl) (by kernel_rfl) ?zhQ6a (Or.inr ⟨?zhw6a, rfl⟩) (by assumption) ?zrest6a; (case zhi6a => simp only [List.getElem?_toArray, List.getElem?_cons_succ, List.getElem?_cons_zero]; exact rfl); (case zhQ6a => exact fun _ _ _ h => h); (case zhw6a => rfl); (try simp only [Act.put, List.setIfInBounds_toArray, List.set_cons_zero, List.set_cons_succ])
      refine' wpAnyH_take (i := 7) (oi := ?zoi7a) (v := undef) ?zhi7a (by kernel_rfl) (by kernel_rfl) (by kernel_rfl) ?zhQ7a (Or.inr ⟨?zhw7a, rfl⟩) (by assumption) ?zrest7a; (case zhi7a => simp only [List.getElem?_toArray, List.getElem?_cons_succ, List.getElem?_cons_zero]; exact rfl); (case zhQ7a => exact fun _ _ _ h => h); (case zhw7a => rfl); (try simp only [Act.put, List.setIfInBounds_toArray, List.set_cons_zero, List.set_cons_succ])
      refine' wpAnyH_take (i := 8) (oi := ?zoi8a) (v := undef) ?zhi8a (by kernel_rfl) (by kernel_rfl) (by kernel_rfl) ?zhQ8a (Or.inr ⟨?zhw8a, rfl⟩) (by assumption) ?zrest8a; (case zhi8a => simp only [List.getElem?_toArray, List.getElem?_cons_succ, List.getElem?_cons_zero]; exact rfl); (case zhQ8a => exact fun _ _ _ h => h); (case zhw8a => rfl); (try simp only [Act.put, List.setIfInBounds_toArray, List.set_cons_zero, List.set_cons_succ])
      refine' wpAnyH_take (i := 9) (oi := ?zoi9a) (v := undef) ?zhi9a (by kernel_rfl) (by kernel_rfl) (by kernel_rfl) ?zhQ9a (Or.inr ⟨?zhw9a, rfl⟩) (by assumption) ?zrest9a; (case zhi9a => simp only [List.getElem?_toArray, List.getElem?_cons_succ, List.getElem?_cons_zero]; exact rfl); (case zhQ9a => exact fun _ _ _ h => h); (case zhw9a => rfl); (try simp only [Act.put, List.setIfInBounds_toArray, List.set_cons_zero, List.set_cons_succ])
      refine' wpAnyH_take (i := 10) (oi := ?zoi10a) (v := ?zv10a) ?zhi10a (by kernel_rfl) (by kernel_rfl) (by kernel_rfl) ?zhQ10a (Or.inl ⟨?zhw10a, ?zhy10a⟩) (by assumption) ?zrest10a; (case zhi10a => simp only [List.getElem?_toArray, List.getElem?_cons_succ, List.getElem?_cons_zero]; exact rfl); (case zhQ10a => exact fun _ _ _ h => h); (case zhw10a => rfl); (case zhy10a => intro w hSw; (try dsimp only at hSw); go_simp; (try with_reducible rfl)); (try simp only [Act.put, List.setIfInBounds_toArray, List.set_cons_zero, List.set_cons_succ])
      refine wpAnyH_done (by kernel_rfl) ?_ _
      go_wp2_with fail
      go_meet
      exact ⟨by rw [HN3.out], by (repeat' (with_reducible first | exact Below.refl _ _ | refine Ext.drewN ?_ _ | refine Below.drew ?_ | refine Below.setCell ?_ ?_ _ | refine Below.alloc ?_ ?_ _)) <;> (first | omega | (simp; done) | (simp; omega))⟩
    | some q =>
      obtain rfl := HP.out q rfl
      have HN3 : Hid (late = !aheadE q x) := by rw [← HLA.out]; rfl
      have HKS : Hid (∀ W : World, Ext (w.alloc (.cells #[.int .i64 x.time, .int .i64 x.proc, .bool x.answer, .int .i64 x.id, .int .i64 x.object, .int .i64 x.kind, .int .i64 x.method, .int .i64 x.arg, .int .i64 x.second, .int .i64 x.result] 42)) W → ((W.cell? ⟨j, 2, none⟩ = some (.int .i64 q.time) ∧ W.cell? ⟨j, 2 + 1, none⟩ = some (.int .i64 q.proc) ∧ W.cell? ⟨j, 2 + 2, none⟩ = some (.bool q.answer) ∧ W.cell? ⟨j, 2 + 3, none⟩ = some (.int .i64 q.id) ∧ W.cell? ⟨j, 2 + 4, none⟩ = some (.int .i64 q.object) ∧ W.cell? ⟨j, 2 + 5, none⟩ = some (.int .i64 q.kind) ∧ W.cell? ⟨j, 2 + 6, none⟩ = some (.int .i64 q.method) ∧ W.cell? ⟨j, 2 + 7, none⟩ = some (.int .i64 q.arg) ∧ W.cell? ⟨j, 2 + 8, none⟩ = some (.int .i64 q.second) ∧ W.cell? ⟨j, 2 + 9, none⟩ = some (.int .i64 q.result)) ∧ ((W.cell? ⟨w.heap.size, 0, none⟩ = some (.int .i64 x.time) ∧ W.cell? ⟨w.heap.size, 1, none⟩ = some (.int .i64 x.proc) ∧ W.cell? ⟨w.heap.size, 2, none⟩ = some (.bool x.answer) ∧ W.cell? ⟨w.heap.size, 3, none⟩ = some (.int .i64 x.id) ∧ W.cell? ⟨w.heap.size, 4, none⟩ = some (.int .i64 x.object) ∧ W.cell? ⟨w.heap.size, 5, none⟩ = some (.int .i64 x.kind) ∧ W.cell? ⟨w.heap.size, 6, none⟩ = some (.int .i64 x.method) ∧ W.cell? ⟨w.heap.size, 7, none⟩ = some (.int .i64 x.arg) ∧ W.cell? ⟨w.heap.size, 8, none⟩ = some (.int .i64 x.second) ∧ W.cell? ⟨w.heap.size, 9, none⟩ = some (.int .i64 x.result))))) := fun W h => ⟨(HJC.out W (HJW.out W h)).2.2, HBX.out W h⟩
      refine wp_region_held_drew (S := fun W => (W.cell? ⟨j, 2, none⟩ = some (.int .i64 q.time) ∧ W.cell? ⟨j, 2 + 1, none⟩ = some (.int .i64 q.proc) ∧ W.cell? ⟨j, 2 + 2, none⟩ = some (.bool q.answer) ∧ W.cell? ⟨j, 2 + 3, none⟩ = some (.int .i64 q.id) ∧ W.cell? ⟨j, 2 + 4, none⟩ = some (.int .i64 q.object) ∧ W.cell? ⟨j, 2 + 5, none⟩ = some (.int .i64 q.kind) ∧ W.cell? ⟨j, 2 + 6, none⟩ = some (.int .i64 q.method) ∧ W.cell? ⟨j, 2 + 7, none⟩ = some (.int .i64 q.arg) ∧ W.cell? ⟨j, 2 + 8, none⟩ = some (.int .i64 q.second) ∧ W.cell? ⟨j, 2 + 9, none⟩ = some (.int .i64 q.result)) ∧ ((W.cell? ⟨w.heap.size, 0, none⟩ = some (.int .i64 x.time) ∧ W.cell? ⟨w.heap.size, 1, none⟩ = some (.int .i64 x.proc) ∧ W.cell? ⟨w.heap.size, 2, none⟩ = some (.bool x.answer) ∧ W.cell? ⟨w.heap.size, 3, none⟩ = some (.int .i64 x.id) ∧ W.cell? ⟨w.heap.size, 4, none⟩ = some (.int .i64 x.object) ∧ W.cell? ⟨w.heap.size, 5, none⟩ = some (.int .i64 x.kind) ∧ W.cell? ⟨w.heap.size, 6, none⟩ = some (.int .i64 x.method) ∧ W.cell? ⟨w.heap.size, 7, none⟩ = some (.int .i64 x.arg) ∧ W.cell? ⟨w.heap.size, 8, none⟩ = some (.int .i64 x.second) ∧ W.cell? ⟨w.heap.size, 9, none⟩ = some (.int .i64 x.result)))) (by kernel_rfl) (HKS.out _ (by (repeat' (with_reducible first | exact Below.refl _ _ | refine Ext.drewN ?_ _ | refine Below.drew ?_ | refine Below.setCell ?_ ?_ _ | refine Below.alloc ?_ ?_ _)) <;> (first | omega | (simp; done) | (simp; omega)))) (fun hHeld => ?_)
      refine' wpAnyH_take (i := 0) (oi := ?zoi0b) (v := ?zv0b) ?zhi0b (by kernel_rfl) (by kernel_rfl) (by kernel_rfl) ?zhQ0b (Or.inl ⟨?zhw0b, ?zhy0b⟩) (by assumption) ?zrest0b; (case zhi0b => simp only [List.getElem?_toArray, List.getElem?_cons_succ, List.getElem?_cons_zero]; exact rfl); (case zhQ0b => exact fun _ _ _ h => h); (case zhw0b => rfl); (case zhy0b => intro w hSw; (try dsimp only at hSw); go_simp; (try with_reducible rfl)); (try simp only [Act.put, List.setIfInBounds_toArray, List.set_cons_zero, List.set_cons_succ])
      refine' wpAnyH_take (i := 1) (oi := ?zoi1b) (v := ?zv1b) ?zhi1b (by kernel_rfl) (by kernel_rfl) (by kernel_rfl) ?zhQ1b (Or.inl ⟨?zhw1b, ?zhy1b⟩) (by assumption) ?zrest1b; (case zhi1b => simp only [List.getElem?_toArray, List.getElem?_cons_succ, List.getElem?_cons_zero]; exact rfl); (case zhQ1b => exact fun _ _ _ h => h); (case zhw1b => rfl); (case zhy1b => intro w hSw; (try dsimp only at hSw); go_simp; (try with_reducible rfl)); (try simp only [Act.put, List.setIfInBounds_toArray, List.set_cons_zero, List.set_cons_succ])
      refine' wpAnyH_take (i := 2) (oi := ?zoi2b) (v := ?zv2b) ?zhi2b (by kernel_rfl) (by kernel_rfl) (by kernel_rfl) ?zhQ2b (Or.inl ⟨?zhw2b, ?zhy2b⟩) (by assumption) ?zrest2b; (case zhi2b => simp only [List.getElem?_toArray, List.getElem?_cons_succ, List.getElem?_cons_zero]; exact rfl); (case zhQ2b => exact fun _ _ _ h => h); (case zhw2b => rfl); (case zhy2b => intro w hSw; (try dsimp only at hSw); go_simp; (try with_reducible rfl)); (try simp only [Act.put, List.setIfInBounds_toArray, List.set_cons_zero, List.set_cons_succ])
      refine' wpAnyH_take (i := 3) (oi := ?zoi3b) (v := ?zv3b) ?zhi3b (by kernel_rfl) (by kernel_rfl) (by kernel_rfl) ?zhQ3b (Or.inl ⟨?zhw3b, ?zhy3b⟩) (by assumption) ?zrest3b; (case zhi3b => simp only [List.getElem?_toArray, List.getElem?_cons_succ, List.getElem?_cons_zero]; exact rfl); (case zhQ3b => exact fun _ _ _ h => h); (case zhw3b => rfl); (case zhy3b => intro w hSw; (try dsimp only at hSw); go_simp; (try with_reducible rfl)); (try simp only [Act.put, List.setIfInBounds_toArray, List.set_cons_zero, List.set_cons_succ])
      refine' wpAnyH_take (i := 4) (oi := ?zoi4b) (v := ?zv4b) ?zhi4b (by kernel_rfl) (by kernel_rfl) (by kernel_rfl) ?zhQ4b (Or.inl ⟨?zhw4b, ?zhy4b⟩) (by assumption) ?zrest4b; (case zhi4b => simp only [List.getElem?_toArray, List.getElem?_cons_succ, List.getElem?_cons_zero]; exact rfl); (case zhQ4b => exact fun _ _ _ h => h); (case zhw4b => rfl); (case zhy4b => intro w hSw; (try dsimp only at hSw); go_simp; (try with_reducible rfl)); (try simp only [Act.put, List.setIfInBounds_toArray, List.set_cons_zero, List.set_cons_succ])
      refine' wpAnyH_take (i := 5) (oi := ?zoi5b) (v := ?zv5b) ?zhi5b (by kernel_rfl) (by kernel_rfl) (by kernel_rfl) ?zhQ5b (Or.inl ⟨?zhw5b, ?zhy5b⟩) (by assumption) ?zrest5b; (case zhi5b => simp only [List.getElem?_toArray, List.getElem?_cons_succ, List.getElem?_cons_zero]; exact rfl); (case zhQ5b => exact fun _ _ _ h => h); (case zhw5b => rfl); (case zhy5b => intro w hSw; (try dsimp only at hSw); go_simp; (try with_reducible rfl)); (try simp only [Act.put, List.setIfInBounds_toArray, List.set_cons_zero, List.set_cons_succ])
      refine' wpAnyH_take (i := 6) (oi := ?zoi6b) (v := ?zv6b) ?zhi6b (by kernel_rfl) (by kernel_rfl) (by kernel_rfl) ?zhQ6b (Or.inl ⟨?zhw6b, ?zhy6b⟩) (by assumption) ?zrest6b; (case zhi6b => simp only [List.getElem?_toArray, List.getElem?_cons_succ, List.getElem?_cons_zero]; exact rfl); (case zhQ6b => exact fun _ _ _ h => h); (case zhw6b => rfl); (case zhy6b => intro w hSw; (try dsimp only at hSw); go_simp; (try with_reducible rfl)); (try simp only [Act.put, List.setIfInBounds_toArray, List.set_cons_zero, List.set_cons_succ])
      refine' wpAnyH_take (i := 7) (oi := ?zoi7b) (v := ?zv7b) ?zhi7b (by kernel_rfl) (by kernel_rfl) (by kernel_rfl) ?zhQ7b (Or.inl ⟨?zhw7b, ?zhy7b⟩) (by assumption) ?zrest7b; (case zhi7b => simp only [List.getElem?_toArray, List.getElem?_cons_succ, List.getElem?_cons_zero]; exact rfl); (case zhQ7b => exact fun _ _ _ h => h); (case zhw7b => rfl); (case zhy7b => intro w hSw; (try dsimp only at hSw); go_simp; (try with_reducible rfl)); (try simp only [Act.put, List.setIfInBounds_toArray, List.set_cons_zero, List.set_cons_succ])
      refine wpAnyH_ready (rs := [8]) (by kernel_rfl) (by simp) ?_; refine AllReadyH.cons rfl (fun K hK => ?_) AllReadyH.nil; go_simp
      refine (evOrder_any q x _).mono ?_
      rintro e w1 ⟨rfl, hb1⟩
      have HB1 : Hid (Ext (w.alloc (.cells #[.int .i64 x.time, .int .i64 x.proc, .bool x.answer, .int .i64 x.id, .int .i64 x.object, .int .i64 x.kind, .int .i64 x.method, .int .i64 x.arg, .int .i64 x.second, .int .i64 x.result] 42)) w1) := Ext.trans (by (repeat' (with_reducible first | exact Below.refl _ _ | refine Ext.drewN ?_ _ | refine Below.drew ?_ | refine Below.setCell ?_ ?_ _ | refine Below.alloc ?_ ?_ _)) <;> (first | omega | (simp; done) | (simp; omega))) hb1.ext
      clear hb1
      (try dsimp only)
      (try go_simp)
      refine hK.out _ _ (HKS.out _ HB1.out) (fun hHeld => ?_)
      clear hK K
      (try simp only [Act.put, List.setIfInBounds_toArray, List.set_cons_zero, List.set_cons_succ])
      refine' wpAnyH_take (i := 9) (oi := ?zoi9b) (v := ?zv9b) ?zhi9b (by kernel_rfl) (by kernel_rfl) (by kernel_rfl) ?zhQ9b (Or.inl ⟨?zhw9b, ?zhy9b⟩) (by assumption) ?zrest9b; (case zhi9b => simp only [List.getElem?_toArray, List.getElem?_cons_succ, List.getElem?_cons_zero]; exact rfl); (case zhQ9b => exact fun _ _ _ h => h); (case zhw9b => rfl); (case zhy9b => intro w hSw; (try dsimp only at hSw); go_simp; (try with_reducible rfl)); (try simp only [Act.put, List.setIfInBounds_toArray, List.set_cons_zero, List.set_cons_succ])
      refine' wpAnyH_take (i := 10) (oi := ?zoi10b) (v := ?zv10b) ?zhi10b (by kernel_rfl) (by kernel_rfl) (by kernel_rfl) ?zhQ10b (Or.inl ⟨?zhw10b, ?zhy10b⟩) (by assumption) ?zrest10b; (case zhi10b => simp only [List.getElem?_toArray, List.getElem?_cons_succ, List.getElem?_cons_zero]; exact rfl); (case zhQ10b => exact fun _ _ _ h => h); (case zhw10b => rfl); (case zhy10b => intro w hSw; (try dsimp only at hSw); go_simp; (try with_reducible rfl)); (try simp only [Act.put, List.setIfInBounds_toArray, List.set_cons_zero, List.set_cons_succ])
      refine wpAnyH_done (by kernel_rfl) ?_ _
      go_wp2_with fail
      go_meet
      exact ⟨by rw [HN3.out, ← ltE]; congr 1; rw [Bool.eq_iff_iff]; simp, HB1.out⟩
  case rest =>
  obtain ⟨rfl, hbc⟩ := hcut
  have HBC := Lib.hid hbc
  have KX := Lib.hid (HJW.out _ hbc)
  clear hbc
  have hl0 : w.heap.size < wc.heap.size := by have := HBC.out.size; simp at this; omega
  cases late with
  | true =>
    rw [if_pos rfl] at HST
    go_wp2_with fail
    go_ret
    exact ⟨by rw [HST.out]; rfl, Only.of (by (repeat' (with_reducible first | exact KX.out | exact Below.refl _ _ | refine Ext.drewN ?_ _ | refine Below.drew ?_ | refine Below.setCell ?_ ?_ _ | refine Below.alloc ?_ ?_ _)) <;> (first | omega | (simp; done) | (simp; omega))), fun h => by rw [HST.out] at h; exact absurd h (by simp)⟩
  | false =>
    rw [if_neg (by simp)] at HST
    obtain ⟨c0, c1, c2, c3, c4, c5, c6, c7, c8, c9, c10, c11⟩ := HJC.out _ KX.out
    obtain ⟨a0, a1, a2, a3, a4, a5, a6, a7, a8, a9⟩ := HBX.out _ HBC.out
    have HJ3 := Lib.hid (HJ.out.ext KX.out)
    obtain ⟨f2, f3, f4, f5, f6, f7, f8, f9, f10, f11⟩ : wc.frozen? ⟨j, 2, none⟩ = false ∧ wc.frozen? ⟨j, 3, none⟩ = false ∧ wc.frozen? ⟨j, 4, none⟩ = false ∧ wc.frozen? ⟨j, 5, none⟩ = false ∧ wc.frozen? ⟨j, 6, none⟩ = false ∧ wc.frozen? ⟨j, 7, none⟩ = false ∧ wc.frozen? ⟨j, 8, none⟩ = false ∧ wc.frozen? ⟨j, 9, none⟩ = false ∧ wc.frozen? ⟨j, 10, none⟩ = false ∧ wc.frozen? ⟨j, 11, none⟩ = false := by
      have h1 := HJ3.out.1.soft
      exact ⟨h1 2, h1 3, h1 4, h1 5, h1 6, h1 7, h1 8, h1 9, h1 10, h1 11⟩
    go_upto_region 4 with fail
    generalize hw4 : World.setCell _ _ _ = w4
    have HO4 : Hid (Only (fun i => i = j) wc w4) := by
      subst hw4
      unfold Hid
      exact (((((((((((Only.refl : Only (fun i => i = j) wc wc).setCell (.inl rfl) _).setCell (.inl rfl) _).setCell (.inl rfl) _).setCell (.inl rfl) _).setCell (.inl rfl) _).setCell (.inl rfl) _).setCell (.inl rfl) _).setCell (.inl rfl) _).setCell (.inl rfl) _).setCell (.inl rfl) _)
    have HR4 : Hid (Row1 w4 j 54 (.map (some mo) :: .map (some mq) :: x.cells)) := by
      subst hw4
      exact ((((((((((HJ3.out.1.set 2 _).set 3 _).set 4 _).set 5 _).set 6 _).set 7 _).set 8 _).set 9 _).set 10 _).set 11 _)
    clear hw4 c0 c1 c2 c3 c4 c5 c6 c7 c8 c9 c10 c11 f2 f3 f4 f5 f6 f7 f8 f9 f10 f11 a0 a1 a2 a3 a4 a5 a6 a7 a8 a9
    have HJ4 : Hid (JAt w4 j mo mq n x M Q) := ⟨HR4.out, HO4.out.map HJ3.out.2.1 (fun q => HNE.out.1 q.symm), HO4.out.map HJ3.out.2.2.1 (fun q => HNE.out.2.1 q.symm), HNE.out.2.2⟩
    have HB4 : Hid (At10 w4 w.heap.size x) := by
      have c := fun i => HO4.out.cell (b := w.heap.size) (o := i) hl0 (by omega)
      obtain ⟨g0, g1, g2, g3, g4, g5, g6, g7, g8, g9⟩ := HBX.out _ HBC.out
      exact ⟨(c 0).trans g0, (c 1).trans g1, (c 2).trans g2, (c 3).trans g3, (c 4).trans g4, (c 5).trans g5, (c 6).trans g6, (c 7).trans g7, (c 8).trans g8, (c 9).trans g9⟩
    have HOW4 : Hid (Only (Jmay j mo mq) w w4) := (Only.of KX.out).trans HO4.out (fun i q => .inl (.inl q))
    have hl4 : w.heap.size < w4.heap.size := Nat.lt_of_lt_of_le hl0 HO4.out.size
    clear HO4 HR4 HJ3 HJC HBX HBC KX HJW
    obtain ⟨a0, a1, a2, a3, a4, a5, a6, a7, a8, a9⟩ := HB4.out
    obtain ⟨an, han⟩ : ∃ an, x.answer = an := ⟨_, rfl⟩
    rw [han] at a2
    have HST2 : Hid (takeS p l x = if an = true then stepAns l x else stepInv l x) := by rw [HST.out, ← han]; rfl
    have HAN := Lib.hid han
    have HXV : Hid (Value.agg #[.int .i64 x.time, .int .i64 x.proc, .bool an, .int .i64 x.id, .int .i64 x.object, .int .i64 x.kind, .int .i64 x.method, .int .i64 x.arg, .int .i64 x.second, .int .i64 x.result] = x.val) := by unfold Hid; rw [← han]
    clear han HST
    cases an with
    | true =>
      rw [if_pos rfl] at HST2
      go_wp2_with fail
      rw [HXV.out]
      refine (joinAnswer_any j mo mq n x M Q l x _ HJ4.out HR.out hn HX.out).mono ?_
      rintro e w5 ⟨rfl, ho5, hj5⟩
      have HO5 : Hid (Only (Jmay j mo mq) w w5) := HOW4.out.trans ho5 (fun i q => .inl q)
      have HJ5 := Lib.hid hj5
      clear ho5 hj5
      go_wp2_with fail
      go_ret
      rw [HST2.out]
      exact ⟨rfl, HO5.out, HJ5.out⟩
    | false =>
      rw [if_neg (by simp)] at HST2
      have HSI : Hid (stepInv l x = if (getL l x.id).isSome = true then (l, 7) else if 0 ≤ openL l x.proc then (l, 32) else (withL l (opOf x), invCode x)) := rfl
      rw [← HR.out.ops] at HSI
      have HIC : Hid (invCode x = if chkL (opOf x) = 0 ∧ x.result ≠ 0 then 33 else chkL (opOf x)) := rfl
      have HLM : Hid (∀ W : World, Ext w4 W → (Instr.lookup 51 (.map (some mo)) (.int .i64 x.id) true).run Tryd.prog W = .ok (.tuple #[((M x.id).map OpD.val).getD opZero.val, .bool (M x.id).isSome]) W) :=
        fun W h => (HJ4.out.ext h).2.1.look Tryd.underlying3 Tryd.underlying51 (Tryd.zOp W) HX.out.2.1
      have HLQ : Hid (∀ W : World, Ext w4 W → (Instr.lookup 52 (.map (some mq)) (.int .i64 x.proc) true).run Tryd.prog W = .ok (.tuple #[((Q x.proc).map (Value.int .i64)).getD (.int .i64 0), .bool (Q x.proc).isSome]) W) :=
        fun W h => (HJ4.out.ext h).2.2.1.look Tryd.underlying3 Tryd.underlying52 (Tryd.zInt W) HX.out.1
      cases hm : M x.id with
      | some o =>
        rw [hm] at HSI HLM
        rw [if_pos (show (some o).isSome = true from rfl)] at HSI
        have HS6 : Hid (∀ W : World, Ext w4 W → (W.cell? ⟨j, 0, none⟩ = some (.map (some mo)) ∧ W.cell? ⟨w.heap.size, 3, none⟩ = some (.int .i64 x.id) ∧ (Instr.lookup 51 (.map (some mo)) (.int .i64 x.id) true).run Tryd.prog W = .ok (.tuple #[.agg #[.int .i64 o.id, .int .i64 o.proc, .int .i64 o.object, .int .i64 o.kind, .int .i64 o.method, .int .i64 o.arg, .int .i64 o.second, .bool o.done, .int .i64 o.result, .int .i64 o.invoke, .int .i64 o.ret], .bool true]) W)) :=
          fun W h => ⟨(HJ4.out.ext h).1.cell 0, (HB4.out.ext h hl4).2.2.2.1, HLM.out W h⟩
        clear hm
        go_upto_region 6 with fail
        refine wp_region_held_drew (S := fun W => W.cell? ⟨j, 0, none⟩ = some (.map (some mo)) ∧ W.cell? ⟨w.heap.size, 3, none⟩ = some (.int .i64 x.id) ∧ (Instr.lookup 51 (.map (some mo)) (.int .i64 x.id) true).run Tryd.prog W = .ok (.tuple #[.agg #[.int .i64 o.id, .int .i64 o.proc, .int .i64 o.object, .int .i64 o.kind, .int .i64 o.method, .int .i64 o.arg, .int .i64 o.second, .bool o.done, .int .i64 o.result, .int .i64 o.invoke, .int .i64 o.ret], .bool true]) W) (by kernel_rfl) (HS6.out _ (by (repeat' (with_reducible first | exact Below.refl _ _ | refine Ext.drewN ?_ _ | refine Below.drew ?_ | refine Below.setCell ?_ ?_ _ | refine Below.alloc ?_ ?_ _)) <;> (first | omega | (simp; done) | (simp; omega)))) (fun hHeld => ?_)
        refine' wpAnyH_take (i := 0) (oi := ?zoi0c) (v := ?zv0c) ?zhi0c (by kernel_rfl) (by kernel_rfl) (by kernel_rfl) ?zhQ0c (Or.inl ⟨?zhw0c, ?zhy0c⟩) (by assumption) ?zrest0c; (case zhi0c => simp only [List.getElem?_toArray, List.getElem?_cons_succ, List.getElem?_cons_zero]; exact rfl); (case zhQ0c => exact fun _ _ _ h => h); (case zhw0c => rfl); (case zhy0c => intro w hSw; (try dsimp only at hSw); go_simp; (try with_reducible rfl)); (try simp only [Act.put, List.setIfInBounds_toArray, List.set_cons_zero, List.set_cons_succ])
        refine' wpAnyH_take (i := 1) (oi := ?zoi1c) (v := ?zv1c) ?zhi1c (by kernel_rfl) (by kernel_rfl) (by kernel_rfl) ?zhQ1c (Or.inl ⟨?zhw1c, ?zhy1c⟩) (by assumption) ?zrest1c; (case zhi1c => simp only [List.getElem?_toArray, List.getElem?_cons_succ, List.getElem?_cons_zero]; exact rfl); (case zhQ1c => exact fun _ _ _ h => h); (case zhw1c => rfl); (case zhy1c => intro w hSw; (try dsimp only at hSw); go_simp; (try with_reducible rfl)); (try simp only [Act.put, List.setIfInBounds_toArray, List.set_cons_zero, List.set_cons_succ])
        refine' wpAnyH_take (i := 2) (oi := ?zoi2c) (v := ?zv2c) ?zhi2c (by kernel_rfl) (by kernel_rfl) (by kernel_rfl) ?zhQ2c (Or.inl ⟨?zhw2c, ?zhy2c⟩) (by assumption) ?zrest2c; (case zhi2c => simp only [List.getElem?_toArray, List.getElem?_cons_succ, List.getElem?_cons_zero]; exact rfl); (case zhQ2c => exact fun _ _ _ h => h); (case zhw2c => rfl); (case zhy2c => intro w hSw; (try dsimp only at hSw); go_simp; (try with_reducible rfl)); (try simp only [Act.put, List.setIfInBounds_toArray, List.set_cons_zero, List.set_cons_succ])
        refine' wpAnyH_take (i := 3) (oi := ?zoi3c) (v := ?zv3c) ?zhi3c (by kernel_rfl) (by kernel_rfl) (by kernel_rfl) ?zhQ3c (Or.inl ⟨?zhw3c, ?zhy3c⟩) (by assumption) ?zrest3c; (case zhi3c => simp only [List.getElem?_toArray, List.getElem?_cons_succ, List.getElem?_cons_zero]; exact rfl); (case zhQ3c => exact fun _ _ _ h => h); (case zhw3c => rfl); (case zhy3c => intro w hSw; (try dsimp only at hSw); go_simp; (try with_reducible rfl)); (try simp only [Act.put, List.setIfInBounds_toArray, List.set_cons_zero, List.set_cons_succ])
        refine' wpAnyH_take (i := 4) (oi := ?zoi4c) (v := ?zv4c) ?zhi4c (by kernel_rfl) (by kernel_rfl) (by kernel_rfl) ?zhQ4c (Or.inl ⟨?zhw4c, ?zhy4c⟩) (by assumption) ?zrest4c; (case zhi4c => simp only [List.getElem?_toArray, List.getElem?_cons_succ, List.getElem?_cons_zero]; exact rfl); (case zhQ4c => exact fun _ _ _ h => h); (case zhw4c => rfl); (case zhy4c => intro w hSw; (try dsimp only at hSw); go_simp; (try with_reducible rfl)); (try simp only [Act.put, List.setIfInBounds_toArray, List.set_cons_zero, List.set_cons_succ])
        refine' wpAnyH_take (i := 5) (oi := ?zoi5c) (v := ?zv5c) ?zhi5c (by kernel_rfl) (by kernel_rfl) (by kernel_rfl) ?zhQ5c (Or.inl ⟨?zhw5c, ?zhy5c⟩) (by assumption) ?zrest5c; (case zhi5c => simp only [List.getElem?_toArray, List.getElem?_cons_succ, List.getElem?_cons_zero]; exact rfl); (case zhQ5c => exact fun _ _ _ h => h); (case zhw5c => rfl); (case zhy5c => intro w hSw; (try dsimp only at hSw); go_simp; (try with_reducible rfl)); (try simp only [Act.put, List.setIfInBounds_toArray, List.set_cons_zero, List.set_cons_succ])
        refine' wpAnyH_take (i := 6) (oi := ?zoi6c) (v := ?zv6c) ?zhi6c (by kernel_rfl) (by kernel_rfl) (by kernel_rfl) ?zhQ6c (Or.inl ⟨?zhw6c, ?zhy6c⟩) (by assumption) ?zrest6c; (case zhi6c => simp only [List.getElem?_toArray, List.getElem?_cons_succ, List.getElem?_cons_zero]; exact rfl); (case zhQ6c => exact fun _ _ _ h => h); (case zhw6c => rfl); (case zhy6c => intro w hSw; (try dsimp only at hSw); go_simp; (try with_reducible rfl)); (try simp only [Act.put, List.setIfInBounds_toArray, List.set_cons_zero, List.set_cons_succ])
        refine' wpAnyH_take (i := 7) (oi := ?zoi7c) (v := ?zv7c) ?zhi7c (by kernel_rfl) (by kernel_rfl) (by kernel_rfl) ?zhQ7c (Or.inl ⟨?zhw7c, ?zhy7c⟩) (by assumption) ?zrest7c; (case zhi7c => simp only [List.getElem?_toArray, List.getElem?_cons_succ, List.getElem?_cons_zero]; exact rfl); (case zhQ7c => exact fun _ _ _ h => h); (case zhw7c => rfl); (case zhy7c => intro w hSw; (try dsimp only at hSw); go_simp; (try with_reducible rfl)); (try simp only [Act.put, List.setIfInBounds_toArray, List.set_cons_zero, List.set_cons_succ])
        refine' wpAnyH_take (i := 8) (oi := ?zoi8c) (v := ?zv8c) ?zhi8c (by kernel_rfl) (by kernel_rfl) (by kernel_rfl) ?zhQ8c (Or.inl ⟨?zhw8c, ?zhy8c⟩) (by assumption) ?zrest8c; (case zhi8c => simp only [List.getElem?_toArray, List.getElem?_cons_succ, List.getElem?_cons_zero]; exact rfl); (case zhQ8c => exact fun _ _ _ h => h); (case zhw8c => rfl); (case zhy8c => intro w hSw; (try dsimp only at hSw); go_simp; (try with_reducible rfl)); (try simp only [Act.put, List.setIfInBounds_toArray, List.set_cons_zero, List.set_cons_succ])
        refine' wpAnyH_take (i := 9) (oi := ?zoi9c) (v := ?zv9c) ?zhi9c (by kernel_rfl) (by kernel_rfl) (by kernel_rfl) ?zhQ9c (Or.inl ⟨?zhw9c, ?zhy9c⟩) (by assumption) ?zrest9c; (case zhi9c => simp only [List.getElem?_toArray, List.getElem?_cons_succ, List.getElem?_cons_zero]; exact rfl); (case zhQ9c => exact fun _ _ _ h => h); (case zhw9c => rfl); (case zhy9c => intro w hSw; (try dsimp only at hSw); go_simp; (try with_reducible rfl)); (try simp only [Act.put, List.setIfInBounds_toArray, List.set_cons_zero, List.set_cons_succ])
        refine wpAnyH_ready (rs := [10]) (by kernel_rfl) (by simp) ?_; refine AllReadyH.cons rfl (fun K hK => ?_) AllReadyH.nil; go_simp
        refine hK.out _ _ (HS6.out _ (by (repeat' (with_reducible first | exact Below.refl _ _ | refine Ext.drewN ?_ _ | refine Below.drew ?_ | refine Below.setCell ?_ ?_ _ | refine Below.alloc ?_ ?_ _)) <;> (first | omega | (simp; done) | (simp; omega)))) (fun hHeld => ?_)
        clear hK K
        (try simp only [Act.put, List.setIfInBounds_toArray, List.set_cons_zero, List.set_cons_succ])
        refine wpAnyH_ready (rs := [11]) (by kernel_rfl) (by simp) ?_; refine AllReadyH.cons rfl (fun K hK => ?_) AllReadyH.nil; go_simp
        refine hK.out _ _ (HS6.out _ (by (repeat' (with_reducible first | exact Below.refl _ _ | refine Ext.drewN ?_ _ | refine Below.drew ?_ | refine Below.setCell ?_ ?_ _ | refine Below.alloc ?_ ?_ _)) <;> (first | omega | (simp; done) | (simp; omega)))) (fun hHeld => ?_)
        clear hK K
        (try simp only [Act.put, List.setIfInBounds_toArray, List.set_cons_zero, List.set_cons_succ])
        refine' wpAnyH_take (i := 12) (oi := ?zoi12c) (v := ?zv12c) ?zhi12c (by kernel_rfl) (by kernel_rfl) (by kernel_rfl) ?zhQ12c (Or.inl ⟨?zhw12c, ?zhy12c⟩) (by assumption) ?zrest12c; (case zhi12c => simp only [List.getElem?_toArray, List.getElem?_cons_succ, List.getElem?_cons_zero]; exact rfl); (case zhQ12c => exact fun _ _ _ h => h); (case zhw12c => rfl); (case zhy12c => intro w hSw; (try dsimp only at hSw); go_simp; (try with_reducible rfl)); (try simp only [Act.put, List.setIfInBounds_toArray, List.set_cons_zero, List.set_cons_succ])
        refine wpAnyH_done (by kernel_rfl) ?_ _
        go_wp2_with fail
        go_ret
        rw [HST2.out, HSI.out]
        exact ⟨rfl, HOW4.out.ext (by (repeat' (with_reducible first | exact Below.refl _ _ | refine Ext.drewN ?_ _ | refine Below.drew ?_ | refine Below.setCell ?_ ?_ _ | refine Below.alloc ?_ ?_ _)) <;> (first | omega | (simp; done) | (simp; omega))), fun h => absurd h (by simp)⟩
      | none =>
        rw [hm] at HSI HLM
        rw [if_neg (by simp)] at HSI
        have HS6 : Hid (∀ W : World, Ext w4 W → (W.cell? ⟨j, 0, none⟩ = some (.map (some mo)) ∧ W.cell? ⟨w.heap.size, 3, none⟩ = some (.int .i64 x.id) ∧ (Instr.lookup 51 (.map (some mo)) (.int .i64 x.id) true).run Tryd.prog W = .ok (.tuple #[opZero.val, .bool false]) W)) :=
          fun W h => ⟨(HJ4.out.ext h).1.cell 0, (HB4.out.ext h hl4).2.2.2.1, HLM.out W h⟩
        go_upto_region 6 with fail
        refine wp_region_held_drew (S := fun W => W.cell? ⟨j, 0, none⟩ = some (.map (some mo)) ∧ W.cell? ⟨w.heap.size, 3, none⟩ = some (.int .i64 x.id) ∧ (Instr.lookup 51 (.map (some mo)) (.int .i64 x.id) true).run Tryd.prog W = .ok (.tuple #[opZero.val, .bool false]) W) (by kernel_rfl) (HS6.out _ (by (repeat' (with_reducible first | exact Below.refl _ _ | refine Ext.drewN ?_ _ | refine Below.drew ?_ | refine Below.setCell ?_ ?_ _ | refine Below.alloc ?_ ?_ _)) <;> (first | omega | (simp; done) | (simp; omega)))) (fun hHeld => ?_)
        refine' wpAnyH_take (i := 0) (oi := ?zoi0d) (v := ?zv0d) ?zhi0d (by kernel_rfl) (by kernel_rfl) (by kernel_rfl) ?zhQ0d (Or.inl ⟨?zhw0d, ?zhy0d⟩) (by assumption) ?zrest0d; (case zhi0d => simp only [List.getElem?_toArray, List.getElem?_cons_succ, List.getElem?_cons_zero]; exact rfl); (case zhQ0d => exact fun _ _ _ h => h); (case zhw0d => rfl); (case zhy0d => intro w hSw; (try dsimp only at hSw); go_simp; (try with_reducible rfl)); (try simp only [Act.put, List.setIfInBounds_toArray, List.set_cons_zero, List.set_cons_succ])
        refine' wpAnyH_take (i := 1) (oi := ?zoi1d) (v := ?zv1d) ?zhi1d (by kernel_rfl) (by kernel_rfl) (by kernel_rfl) ?zhQ1d (Or.inl ⟨?zhw1d, ?zhy1d⟩) (by assumption) ?zrest1d; (case zhi1d => simp only [List.getElem?_toArray, List.getElem?_cons_succ, List.getElem?_cons_zero]; exact rfl); (case zhQ1d => exact fun _ _ _ h => h); (case zhw1d => rfl); (case zhy1d => intro w hSw; (try dsimp only at hSw); go_simp; (try with_reducible rfl)); (try simp only [Act.put, List.setIfInBounds_toArray, List.set_cons_zero, List.set_cons_succ])
        refine' wpAnyH_take (i := 2) (oi := ?zoi2d) (v := ?zv2d) ?zhi2d (by kernel_rfl) (by kernel_rfl) (by kernel_rfl) ?zhQ2d (Or.inl ⟨?zhw2d, ?zhy2d⟩) (by assumption) ?zrest2d; (case zhi2d => simp only [List.getElem?_toArray, List.getElem?_cons_succ, List.getElem?_cons_zero]; exact rfl); (case zhQ2d => exact fun _ _ _ h => h); (case zhw2d => rfl); (case zhy2d => intro w hSw; (try dsimp only at hSw); go_simp; (try with_reducible rfl)); (try simp only [Act.put, List.setIfInBounds_toArray, List.set_cons_zero, List.set_cons_succ])
        refine' wpAnyH_take (i := 3) (oi := ?zoi3d) (v := ?zv3d) ?zhi3d (by kernel_rfl) (by kernel_rfl) (by kernel_rfl) ?zhQ3d (Or.inl ⟨?zhw3d, ?zhy3d⟩) (by assumption) ?zrest3d; (case zhi3d => simp only [List.getElem?_toArray, List.getElem?_cons_succ, List.getElem?_cons_zero]; exact rfl); (case zhQ3d => exact fun _ _ _ h => h); (case zhw3d => rfl); (case zhy3d => intro w hSw; (try dsimp only at hSw); go_simp; (try with_reducible rfl)); (try simp only [Act.put, List.setIfInBounds_toArray, List.set_cons_zero, List.set_cons_succ])
        refine' wpAnyH_take (i := 4) (oi := ?zoi4d) (v := ?zv4d) ?zhi4d (by kernel_rfl) (by kernel_rfl) (by kernel_rfl) ?zhQ4d (Or.inl ⟨?zhw4d, ?zhy4d⟩) (by assumption) ?zrest4d; (case zhi4d => simp only [List.getElem?_toArray, List.getElem?_cons_succ, List.getElem?_cons_zero]; exact rfl); (case zhQ4d => exact fun _ _ _ h => h); (case zhw4d => rfl); (case zhy4d => intro w hSw; (try dsimp only at hSw); go_simp; (try with_reducible rfl)); (try simp only [Act.put, List.setIfInBounds_toArray, List.set_cons_zero, List.set_cons_succ])
        refine' wpAnyH_take (i := 5) (oi := ?zoi5d) (v := ?zv5d) ?zhi5d (by kernel_rfl) (by kernel_rfl) (by kernel_rfl) ?zhQ5d (Or.inl ⟨?zhw5d, ?zhy5d⟩) (by assumption) ?zrest5d; (case zhi5d => simp only [List.getElem?_toArray, List.getElem?_cons_succ, List.getElem?_cons_zero]; exact rfl); (case zhQ5d => exact fun _ _ _ h => h); (case zhw5d => rfl); (case zhy5d => intro w hSw; (try dsimp only at hSw); go_simp; (try with_reducible rfl)); (try simp only [Act.put, List.setIfInBounds_toArray, List.set_cons_zero, List.set_cons_succ])
        refine' wpAnyH_take (i := 6) (oi := ?zoi6d) (v := ?zv6d) ?zhi6d (by kernel_rfl) (by kernel_rfl) (by kernel_rfl) ?zhQ6d (Or.inl ⟨?zhw6d, ?zhy6d⟩) (by assumption) ?zrest6d; (case zhi6d => simp only [List.getElem?_toArray, List.getElem?_cons_succ, List.getElem?_cons_zero]; exact rfl); (case zhQ6d => exact fun _ _ _ h => h); (case zhw6d => rfl); (case zhy6d => intro w hSw; (try dsimp only at hSw); go_simp; (try with_reducible rfl)); (try simp only [Act.put, List.setIfInBounds_toArray, List.set_cons_zero, List.set_cons_succ])
        refine' wpAnyH_take (i := 7) (oi := ?zoi7d) (v := ?zv7d) ?zhi7d (by kernel_rfl) (by kernel_rfl) (by kernel_rfl) ?zhQ7d (Or.inl ⟨?zhw7d, ?zhy7d⟩) (by assumption) ?zrest7d; (case zhi7d => simp only [List.getElem?_toArray, List.getElem?_cons_succ, List.getElem?_cons_zero]; exact rfl); (case zhQ7d => exact fun _ _ _ h => h); (case zhw7d => rfl); (case zhy7d => intro w hSw; (try dsimp only at hSw); go_simp; (try with_reducible rfl)); (try simp only [Act.put, List.setIfInBounds_toArray, List.set_cons_zero, List.set_cons_succ])
        refine' wpAnyH_take (i := 8) (oi := ?zoi8d) (v := ?zv8d) ?zhi8d (by kernel_rfl) (by kernel_rfl) (by kernel_rfl) ?zhQ8d (Or.inl ⟨?zhw8d, ?zhy8d⟩) (by assumption) ?zrest8d; (case zhi8d => simp only [List.getElem?_toArray, List.getElem?_cons_succ, List.getElem?_cons_zero]; exact rfl); (case zhQ8d => exact fun _ _ _ h => h); (case zhw8d => rfl); (case zhy8d => intro w hSw; (try dsimp only at hSw); go_simp; (try with_reducible rfl)); (try simp only [Act.put, List.setIfInBounds_toArray, List.set_cons_zero, List.set_cons_succ])
        refine' wpAnyH_take (i := 9) (oi := ?zoi9d) (v := ?zv9d) ?zhi9d (by kernel_rfl) (by kernel_rfl) (by kernel_rfl) ?zhQ9d (Or.inl ⟨?zhw9d, ?zhy9d⟩) (by assumption) ?zrest9d; (case zhi9d => simp only [List.getElem?_toArray, List.getElem?_cons_succ, List.getElem?_cons_zero]; exact rfl); (case zhQ9d => exact fun _ _ _ h => h); (case zhw9d => rfl); (case zhy9d => intro w hSw; (try dsimp only at hSw); go_simp; (try with_reducible rfl)); (try simp only [Act.put, List.setIfInBounds_toArray, List.set_cons_zero, List.set_cons_succ])
        refine wpAnyH_ready (rs := [10]) (by kernel_rfl) (by simp) ?_; refine AllReadyH.cons rfl (fun K hK => ?_) AllReadyH.nil; go_simp
        refine hK.out _ _ (HS6.out _ (by (repeat' (with_reducible first | exact Below.refl _ _ | refine Ext.drewN ?_ _ | refine Below.drew ?_ | refine Below.setCell ?_ ?_ _ | refine Below.alloc ?_ ?_ _)) <;> (first | omega | (simp; done) | (simp; omega)))) (fun hHeld => ?_)
        clear hK K
        (try simp only [Act.put, List.setIfInBounds_toArray, List.set_cons_zero, List.set_cons_succ])
        refine wpAnyH_ready (rs := [11]) (by kernel_rfl) (by simp) ?_; refine AllReadyH.cons rfl (fun K hK => ?_) AllReadyH.nil; go_simp
        refine hK.out _ _ (HS6.out _ (by (repeat' (with_reducible first | exact Below.refl _ _ | refine Ext.drewN ?_ _ | refine Below.drew ?_ | refine Below.setCell ?_ ?_ _ | refine Below.alloc ?_ ?_ _)) <;> (first | omega | (simp; done) | (simp; omega)))) (fun hHeld => ?_)
        clear hK K
        (try simp only [Act.put, List.setIfInBounds_toArray, List.set_cons_zero, List.set_cons_succ])
        refine' wpAnyH_take (i := 12) (oi := ?zoi12d) (v := ?zv12d) ?zhi12d (by kernel_rfl) (by kernel_rfl) (by kernel_rfl) ?zhQ12d (Or.inl ⟨?zhw12d, ?zhy12d⟩) (by assumption) ?zrest12d; (case zhi12d => simp only [List.getElem?_toArray, List.getElem?_cons_succ, List.getElem?_cons_zero]; exact rfl); (case zhQ12d => exact fun _ _ _ h => h); (case zhw12d => rfl); (case zhy12d => intro w hSw; (try dsimp only at hSw); go_simp; (try with_reducible rfl)); (try simp only [Act.put, List.setIfInBounds_toArray, List.set_cons_zero, List.set_cons_succ])
        refine wpAnyH_done (by kernel_rfl) ?_ _
        clear hHeld HS6 HLM
        go_upto_region 9 with fail
        cases hq : Q x.proc with
        | some id =>
          rw [hq] at HLQ
          have hk : 0 ≤ openL l x.proc := by
            have h1 := HR.out.open_neg x.proc
            rw [hq] at h1
            simp at h1
            exact h1
          rw [if_pos hk] at HSI
          have HS9 : Hid (∀ W : World, Ext w4 W → (W.cell? ⟨j, 1, none⟩ = some (.map (some mq)) ∧ W.cell? ⟨w.heap.size, 1, none⟩ = some (.int .i64 x.proc) ∧ (Instr.lookup 52 (.map (some mq)) (.int .i64 x.proc) true).run Tryd.prog W = .ok (.tuple #[.int .i64 id, .bool true]) W)) :=
            fun W h => ⟨(HJ4.out.ext h).1.cell 1, (HB4.out.ext h hl4).2.1, HLQ.out W h⟩
          clear hm hq hk
          refine wp_region_held_drew (S := fun W => W.cell? ⟨j, 1, none⟩ = some (.map (some mq)) ∧ W.cell? ⟨w.heap.size, 1, none⟩ = some (.int .i64 x.proc) ∧ (Instr.lookup 52 (.map (some mq)) (.int .i64 x.proc) true).run Tryd.prog W = .ok (.tuple #[.int .i64 id, .bool true]) W) (by kernel_rfl) (HS9.out _ (by (repeat' (with_reducible first | exact Below.refl _ _ | refine Ext.drewN ?_ _ | refine Below.drew ?_ | refine Below.setCell ?_ ?_ _ | refine Below.alloc ?_ ?_ _)) <;> (first | omega | (simp; done) | (simp; omega)))) (fun hHeld => ?_)
          refine' wpAnyH_take (i := 0) (oi := ?zoi0e) (v := ?zv0e) ?zhi0e (by kernel_rfl) (by kernel_rfl) (by kernel_rfl) ?zhQ0e (Or.inl ⟨?zhw0e, ?zhy0e⟩) (by assumption) ?zrest0e; (case zhi0e => simp only [List.getElem?_toArray, List.getElem?_cons_succ, List.getElem?_cons_zero]; exact rfl); (case zhQ0e => exact fun _ _ _ h => h); (case zhw0e => rfl); (case zhy0e => intro w hSw; (try dsimp only at hSw); go_simp; (try with_reducible rfl)); (try simp only [Act.put, List.setIfInBounds_toArray, List.set_cons_zero, List.set_cons_succ])
          refine' wpAnyH_take (i := 1) (oi := ?zoi1e) (v := ?zv1e) ?zhi1e (by kernel_rfl) (by kernel_rfl) (by kernel_rfl) ?zhQ1e (Or.inl ⟨?zhw1e, ?zhy1e⟩) (by assumption) ?zrest1e; (case zhi1e => simp only [List.getElem?_toArray, List.getElem?_cons_succ, List.getElem?_cons_zero]; exact rfl); (case zhQ1e => exact fun _ _ _ h => h); (case zhw1e => rfl); (case zhy1e => intro w hSw; (try dsimp only at hSw); go_simp; (try with_reducible rfl)); (try simp only [Act.put, List.setIfInBounds_toArray, List.set_cons_zero, List.set_cons_succ])
          refine' wpAnyH_take (i := 2) (oi := ?zoi2e) (v := ?zv2e) ?zhi2e (by kernel_rfl) (by kernel_rfl) (by kernel_rfl) ?zhQ2e (Or.inl ⟨?zhw2e, ?zhy2e⟩) (by assumption) ?zrest2e; (case zhi2e => simp only [List.getElem?_toArray, List.getElem?_cons_succ, List.getElem?_cons_zero]; exact rfl); (case zhQ2e => exact fun _ _ _ h => h); (case zhw2e => rfl); (case zhy2e => intro w hSw; (try dsimp only at hSw); go_simp; (try with_reducible rfl)); (try simp only [Act.put, List.setIfInBounds_toArray, List.set_cons_zero, List.set_cons_succ])
          refine' wpAnyH_take (i := 3) (oi := ?zoi3e) (v := ?zv3e) ?zhi3e (by kernel_rfl) (by kernel_rfl) (by kernel_rfl) ?zhQ3e (Or.inl ⟨?zhw3e, ?zhy3e⟩) (by assumption) ?zrest3e; (case zhi3e => simp only [List.getElem?_toArray, List.getElem?_cons_succ, List.getElem?_cons_zero]; exact rfl); (case zhQ3e => exact fun _ _ _ h => h); (case zhw3e => rfl); (case zhy3e => intro w hSw; (try dsimp only at hSw); go_simp; (try with_reducible rfl)); (try simp only [Act.put, List.setIfInBounds_toArray, List.set_cons_zero, List.set_cons_succ])
          refine' wpAnyH_take (i := 4) (oi := ?zoi4e) (v := ?zv4e) ?zhi4e (by kernel_rfl) (by kernel_rfl) (by kernel_rfl) ?zhQ4e (Or.inl ⟨?zhw4e, ?zhy4e⟩) (by assumption) ?zrest4e; (case zhi4e => simp only [List.getElem?_toArray, List.getElem?_cons_succ, List.getElem?_cons_zero]; exact rfl); (case zhQ4e => exact fun _ _ _ h => h); (case zhw4e => rfl); (case zhy4e => intro w hSw; (try dsimp only at hSw); go_simp; (try with_reducible rfl)); (try simp only [Act.put, List.setIfInBounds_toArray, List.set_cons_zero, List.set_cons_succ])
          refine' wpAnyH_take (i := 5) (oi := ?zoi5e) (v := ?zv5e) ?zhi5e (by kernel_rfl) (by kernel_rfl) (by kernel_rfl) ?zhQ5e (Or.inl ⟨?zhw5e, ?zhy5e⟩) (by assumption) ?zrest5e; (case zhi5e => simp only [List.getElem?_toArray, List.getElem?_cons_succ, List.getElem?_cons_zero]; exact rfl); (case zhQ5e => exact fun _ _ _ h => h); (case zhw5e => rfl); (case zhy5e => intro w hSw; (try dsimp only at hSw); go_simp; (try with_reducible rfl)); (try simp only [Act.put, List.setIfInBounds_toArray, List.set_cons_zero, List.set_cons_succ])
          refine' wpAnyH_take (i := 6) (oi := ?zoi6e) (v := ?zv6e) ?zhi6e (by kernel_rfl) (by kernel_rfl) (by kernel_rfl) ?zhQ6e (Or.inl ⟨?zhw6e, ?zhy6e⟩) (by assumption) ?zrest6e; (case zhi6e => simp only [List.getElem?_toArray, List.getElem?_cons_succ, List.getElem?_cons_zero]; exact rfl); (case zhQ6e => exact fun _ _ _ h => h); (case zhw6e => rfl); (case zhy6e => intro w hSw; (try dsimp only at hSw); go_simp; (try with_reducible rfl)); (try simp only [Act.put, List.setIfInBounds_toArray, List.set_cons_zero, List.set_cons_succ])
          refine' wpAnyH_take (i := 7) (oi := ?zoi7e) (v := ?zv7e) ?zhi7e (by kernel_rfl) (by kernel_rfl) (by kernel_rfl) ?zhQ7e (Or.inl ⟨?zhw7e, ?zhy7e⟩) (by assumption) ?zrest7e; (case zhi7e => simp only [List.getElem?_toArray, List.getElem?_cons_succ, List.getElem?_cons_zero]; exact rfl); (case zhQ7e => exact fun _ _ _ h => h); (case zhw7e => rfl); (case zhy7e => intro w hSw; (try dsimp only at hSw); go_simp; (try with_reducible rfl)); (try simp only [Act.put, List.setIfInBounds_toArray, List.set_cons_zero, List.set_cons_succ])
          refine' wpAnyH_take (i := 8) (oi := ?zoi8e) (v := ?zv8e) ?zhi8e (by kernel_rfl) (by kernel_rfl) (by kernel_rfl) ?zhQ8e (Or.inl ⟨?zhw8e, ?zhy8e⟩) (by assumption) ?zrest8e; (case zhi8e => simp only [List.getElem?_toArray, List.getElem?_cons_succ, List.getElem?_cons_zero]; exact rfl); (case zhQ8e => exact fun _ _ _ h => h); (case zhw8e => rfl); (case zhy8e => intro w hSw; (try dsimp only at hSw); go_simp; (try with_reducible rfl)); (try simp only [Act.put, List.setIfInBounds_toArray, List.set_cons_zero, List.set_cons_succ])
          refine' wpAnyH_take (i := 9) (oi := ?zoi9e) (v := ?zv9e) ?zhi9e (by kernel_rfl) (by kernel_rfl) (by kernel_rfl) ?zhQ9e (Or.inl ⟨?zhw9e, ?zhy9e⟩) (by assumption) ?zrest9e; (case zhi9e => simp only [List.getElem?_toArray, List.getElem?_cons_succ, List.getElem?_cons_zero]; exact rfl); (case zhQ9e => exact fun _ _ _ h => h); (case zhw9e => rfl); (case zhy9e => intro w hSw; (try dsimp only at hSw); go_simp; (try with_reducible rfl)); (try simp only [Act.put, List.setIfInBounds_toArray, List.set_cons_zero, List.set_cons_succ])
          refine' wpAnyH_take (i := 10) (oi := ?zoi10e) (v := ?zv10e) ?zhi10e (by kernel_rfl) (by kernel_rfl) (by kernel_rfl) ?zhQ10e (Or.inl ⟨?zhw10e, ?zhy10e⟩) (by assumption) ?zrest10e; (case zhi10e => simp only [List.getElem?_toArray, List.getElem?_cons_succ, List.getElem?_cons_zero]; exact rfl); (case zhQ10e => exact fun _ _ _ h => h); (case zhw10e => rfl); (case zhy10e => intro w hSw; (try dsimp only at hSw); go_simp; (try with_reducible rfl)); (try simp only [Act.put, List.setIfInBounds_toArray, List.set_cons_zero, List.set_cons_succ])
          refine' wpAnyH_take (i := 11) (oi := ?zoi11e) (v := ?zv11e) ?zhi11e (by kernel_rfl) (by kernel_rfl) (by kernel_rfl) ?zhQ11e (Or.inl ⟨?zhw11e, ?zhy11e⟩) (by assumption) ?zrest11e; (case zhi11e => simp only [List.getElem?_toArray, List.getElem?_cons_succ, List.getElem?_cons_zero]; exact rfl); (case zhQ11e => exact fun _ _ _ h => h); (case zhw11e => rfl); (case zhy11e => intro w hSw; (try dsimp only at hSw); go_simp; (try with_reducible rfl)); (try simp only [Act.put, List.setIfInBounds_toArray, List.set_cons_zero, List.set_cons_succ])
          refine wpAnyH_done (by kernel_rfl) ?_ _
          go_wp2_with fail
          go_ret
          rw [HST2.out, HSI.out]
          exact ⟨rfl, HOW4.out.ext (by (repeat' (with_reducible first | exact Below.refl _ _ | refine Ext.drewN ?_ _ | refine Below.drew ?_ | refine Below.setCell ?_ ?_ _ | refine Below.alloc ?_ ?_ _)) <;> (first | omega | (simp; done) | (simp; omega))), fun h => absurd h (by simp)⟩
        | none =>
          rw [hq] at HLQ
          have hk : ¬ 0 ≤ openL l x.proc := by
            have h1 := HR.out.open_neg x.proc
            rw [hq] at h1
            simp at h1
            omega
          rw [if_neg hk] at HSI
          have HRI := Lib.hid (HR.out.invoke (opOf x) hm hq rfl)
          have HS9 : Hid (∀ W : World, Ext w4 W → (W.cell? ⟨j, 1, none⟩ = some (.map (some mq)) ∧ W.cell? ⟨w.heap.size, 1, none⟩ = some (.int .i64 x.proc) ∧ (Instr.lookup 52 (.map (some mq)) (.int .i64 x.proc) true).run Tryd.prog W = .ok (.tuple #[.int .i64 0, .bool false]) W)) :=
            fun W h => ⟨(HJ4.out.ext h).1.cell 1, (HB4.out.ext h hl4).2.1, HLQ.out W h⟩
          have HM0 := Lib.hid hm
          have HQ0 := Lib.hid hq
          clear hm hq hk
          refine wp_region_held_drew (S := fun W => W.cell? ⟨j, 1, none⟩ = some (.map (some mq)) ∧ W.cell? ⟨w.heap.size, 1, none⟩ = some (.int .i64 x.proc) ∧ (Instr.lookup 52 (.map (some mq)) (.int .i64 x.proc) true).run Tryd.prog W = .ok (.tuple #[.int .i64 0, .bool false]) W) (by kernel_rfl) (HS9.out _ (by (repeat' (with_reducible first | exact Below.refl _ _ | refine Ext.drewN ?_ _ | refine Below.drew ?_ | refine Below.setCell ?_ ?_ _ | refine Below.alloc ?_ ?_ _)) <;> (first | omega | (simp; done) | (simp; omega)))) (fun hHeld => ?_)
          refine' wpAnyH_take (i := 0) (oi := ?zoi0f) (v := ?zv0f) ?zhi0f (by kernel_rfl) (by kernel_rfl) (by kernel_rfl) ?zhQ0f (Or.inl ⟨?zhw0f, ?zhy0f⟩) (by assumption) ?zrest0f; (case zhi0f => simp only [List.getElem?_toArray, List.getElem?_cons_succ, List.getElem?_cons_zero]; exact rfl); (case zhQ0f => exact fun _ _ _ h => h); (case zhw0f => rfl); (case zhy0f => intro w hSw; (try dsimp only at hSw); go_simp; (try with_reducible rfl)); (try simp only [Act.put, List.setIfInBounds_toArray, List.set_cons_zero, List.set_cons_succ])
          refine' wpAnyH_take (i := 1) (oi := ?zoi1f) (v := ?zv1f) ?zhi1f (by kernel_rfl) (by kernel_rfl) (by kernel_rfl) ?zhQ1f (Or.inl ⟨?zhw1f, ?zhy1f⟩) (by assumption) ?zrest1f; (case zhi1f => simp only [List.getElem?_toArray, List.getElem?_cons_succ, List.getElem?_cons_zero]; exact rfl); (case zhQ1f => exact fun _ _ _ h => h); (case zhw1f => rfl); (case zhy1f => intro w hSw; (try dsimp only at hSw); go_simp; (try with_reducible rfl)); (try simp only [Act.put, List.setIfInBounds_toArray, List.set_cons_zero, List.set_cons_succ])
          refine' wpAnyH_take (i := 2) (oi := ?zoi2f) (v := ?zv2f) ?zhi2f (by kernel_rfl) (by kernel_rfl) (by kernel_rfl) ?zhQ2f (Or.inl ⟨?zhw2f, ?zhy2f⟩) (by assumption) ?zrest2f; (case zhi2f => simp only [List.getElem?_toArray, List.getElem?_cons_succ, List.getElem?_cons_zero]; exact rfl); (case zhQ2f => exact fun _ _ _ h => h); (case zhw2f => rfl); (case zhy2f => intro w hSw; (try dsimp only at hSw); go_simp; (try with_reducible rfl)); (try simp only [Act.put, List.setIfInBounds_toArray, List.set_cons_zero, List.set_cons_succ])
          refine' wpAnyH_take (i := 3) (oi := ?zoi3f) (v := ?zv3f) ?zhi3f (by kernel_rfl) (by kernel_rfl) (by kernel_rfl) ?zhQ3f (Or.inl ⟨?zhw3f, ?zhy3f⟩) (by assumption) ?zrest3f; (case zhi3f => simp only [List.getElem?_toArray, List.getElem?_cons_succ, List.getElem?_cons_zero]; exact rfl); (case zhQ3f => exact fun _ _ _ h => h); (case zhw3f => rfl); (case zhy3f => intro w hSw; (try dsimp only at hSw); go_simp; (try with_reducible rfl)); (try simp only [Act.put, List.setIfInBounds_toArray, List.set_cons_zero, List.set_cons_succ])
          refine' wpAnyH_take (i := 4) (oi := ?zoi4f) (v := ?zv4f) ?zhi4f (by kernel_rfl) (by kernel_rfl) (by kernel_rfl) ?zhQ4f (Or.inl ⟨?zhw4f, ?zhy4f⟩) (by assumption) ?zrest4f; (case zhi4f => simp only [List.getElem?_toArray, List.getElem?_cons_succ, List.getElem?_cons_zero]; exact rfl); (case zhQ4f => exact fun _ _ _ h => h); (case zhw4f => rfl); (case zhy4f => intro w hSw; (try dsimp only at hSw); go_simp; (try with_reducible rfl)); (try simp only [Act.put, List.setIfInBounds_toArray, List.set_cons_zero, List.set_cons_succ])
          refine' wpAnyH_take (i := 5) (oi := ?zoi5f) (v := ?zv5f) ?zhi5f (by kernel_rfl) (by kernel_rfl) (by kernel_rfl) ?zhQ5f (Or.inl ⟨?zhw5f, ?zhy5f⟩) (by assumption) ?zrest5f; (case zhi5f => simp only [List.getElem?_toArray, List.getElem?_cons_succ, List.getElem?_cons_zero]; exact rfl); (case zhQ5f => exact fun _ _ _ h => h); (case zhw5f => rfl); (case zhy5f => intro w hSw; (try dsimp only at hSw); go_simp; (try with_reducible rfl)); (try simp only [Act.put, List.setIfInBounds_toArray, List.set_cons_zero, List.set_cons_succ])
          refine' wpAnyH_take (i := 6) (oi := ?zoi6f) (v := ?zv6f) ?zhi6f (by kernel_rfl) (by kernel_rfl) (by kernel_rfl) ?zhQ6f (Or.inl ⟨?zhw6f, ?zhy6f⟩) (by assumption) ?zrest6f; (case zhi6f => simp only [List.getElem?_toArray, List.getElem?_cons_succ, List.getElem?_cons_zero]; exact rfl); (case zhQ6f => exact fun _ _ _ h => h); (case zhw6f => rfl); (case zhy6f => intro w hSw; (try dsimp only at hSw); go_simp; (try with_reducible rfl)); (try simp only [Act.put, List.setIfInBounds_toArray, List.set_cons_zero, List.set_cons_succ])
          refine' wpAnyH_take (i := 7) (oi := ?zoi7f) (v := ?zv7f) ?zhi7f (by kernel_rfl) (by kernel_rfl) (by kernel_rfl) ?zhQ7f (Or.inl ⟨?zhw7f, ?zhy7f⟩) (by assumption) ?zrest7f; (case zhi7f => simp only [List.getElem?_toArray, List.getElem?_cons_succ, List.getElem?_cons_zero]; exact rfl); (case zhQ7f => exact fun _ _ _ h => h); (case zhw7f => rfl); (case zhy7f => intro w hSw; (try dsimp only at hSw); go_simp; (try with_reducible rfl)); (try simp only [Act.put, List.setIfInBounds_toArray, List.set_cons_zero, List.set_cons_succ])
          refine' wpAnyH_take (i := 8) (oi := ?zoi8f) (v := ?zv8f) ?zhi8f (by kernel_rfl) (by kernel_rfl) (by kernel_rfl) ?zhQ8f (Or.inl ⟨?zhw8f, ?zhy8f⟩) (by assumption) ?zrest8f; (case zhi8f => simp only [List.getElem?_toArray, List.getElem?_cons_succ, List.getElem?_cons_zero]; exact rfl); (case zhQ8f => exact fun _ _ _ h => h); (case zhw8f => rfl); (case zhy8f => intro w hSw; (try dsimp only at hSw); go_simp; (try with_reducible rfl)); (try simp only [Act.put, List.setIfInBounds_toArray, List.set_cons_zero, List.set_cons_succ])
          refine' wpAnyH_take (i := 9) (oi := ?zoi9f) (v := ?zv9f) ?zhi9f (by kernel_rfl) (by kernel_rfl) (by kernel_rfl) ?zhQ9f (Or.inl ⟨?zhw9f, ?zhy9f⟩) (by assumption) ?zrest9f; (case zhi9f => simp only [List.getElem?_toArray, List.getElem?_cons_succ, List.getElem?_cons_zero]; exact rfl); (case zhQ9f => exact fun _ _ _ h => h); (case zhw9f => rfl); (case zhy9f => intro w hSw; (try dsimp only at hSw); go_simp; (try with_reducible rfl)); (try simp only [Act.put, List.setIfInBounds_toArray, List.set_cons_zero, List.set_cons_succ])
          refine' wpAnyH_take (i := 10) (oi := ?zoi10f) (v := ?zv10f) ?zhi10f (by kernel_rfl) (by kernel_rfl) (by kernel_rfl) ?zhQ10f (Or.inl ⟨?zhw10f, ?zhy10f⟩) (by assumption) ?zrest10f; (case zhi10f => simp only [List.getElem?_toArray, List.getElem?_cons_succ, List.getElem?_cons_zero]; exact rfl); (case zhQ10f => exact fun _ _ _ h => h); (case zhw10f => rfl); (case zhy10f => intro w hSw; (try dsimp only at hSw); go_simp; (try with_reducible rfl)); (try simp only [Act.put, List.setIfInBounds_toArray, List.set_cons_zero, List.set_cons_succ])
          refine' wpAnyH_take (i := 11) (oi := ?zoi11f) (v := ?zv11f) ?zhi11f (by kernel_rfl) (by kernel_rfl) (by kernel_rfl) ?zhQ11f (Or.inl ⟨?zhw11f, ?zhy11f⟩) (by assumption) ?zrest11f; (case zhi11f => simp only [List.getElem?_toArray, List.getElem?_cons_succ, List.getElem?_cons_zero]; exact rfl); (case zhQ11f => exact fun _ _ _ h => h); (case zhw11f => rfl); (case zhy11f => intro w hSw; (try dsimp only at hSw); go_simp; (try with_reducible rfl)); (try simp only [Act.put, List.setIfInBounds_toArray, List.set_cons_zero, List.set_cons_succ])
          refine wpAnyH_done (by kernel_rfl) ?_ _
          clear hHeld HS9 HLQ
          go_wp2_with fail
          refine (opCheck_any (opOf x) _ (by simp [opOf])).mono ?_
          rintro e w5 ⟨rfl, hb5⟩
          rw [opChk_eq]
          have KB5 : Hid (Ext ((w4.alloc (.cells #[.int .i64 opZero.id, .int .i64 opZero.proc, .int .i64 opZero.object, .int .i64 opZero.kind, .int .i64 opZero.method, .int .i64 opZero.arg, .int .i64 opZero.second, .bool opZero.done, .int .i64 opZero.result, .int .i64 opZero.invoke, .int .i64 opZero.ret] 40)).alloc (.cells #[.int .i64 x.id, .int .i64 x.proc, .int .i64 x.object, .int .i64 x.kind, .int .i64 x.method, .int .i64 x.arg, .int .i64 x.second, .bool false, .int .i64 0, .int .i64 x.time, .int .i64 0] 40)) w5) := Ext.trans (by (repeat' (with_reducible first | exact Below.refl _ _ | refine Ext.drewN ?_ _ | refine Below.drew ?_ | refine Below.setCell ?_ ?_ _ | refine Below.alloc ?_ ?_ _)) <;> (first | omega | (simp; done) | (simp; omega))) hb5
          have K45 : Hid (Ext w4 w5) := Ext.trans (by (repeat' (with_reducible first | exact Below.refl _ _ | refine Ext.drewN ?_ _ | refine Below.drew ?_ | refine Below.setCell ?_ ?_ _ | refine Below.alloc ?_ ?_ _)) <;> (first | omega | (simp; done) | (simp; omega)) : Ext w4 ((w4.alloc (.cells #[.int .i64 opZero.id, .int .i64 opZero.proc, .int .i64 opZero.object, .int .i64 opZero.kind, .int .i64 opZero.method, .int .i64 opZero.arg, .int .i64 opZero.second, .bool opZero.done, .int .i64 opZero.result, .int .i64 opZero.invoke, .int .i64 opZero.ret] 40)).alloc (.cells #[.int .i64 x.id, .int .i64 x.proc, .int .i64 x.object, .int .i64 x.kind, .int .i64 x.method, .int .i64 x.arg, .int .i64 x.second, .bool false, .int .i64 0, .int .i64 x.time, .int .i64 0] 40))) KB5.out
          have hz5 := KB5.out.size
          simp at hz5
          have HKO : Hid (At11 w5 (w4.heap.size + 1) (opOf x)) := (At11.row (Row1.made' (w := w4.alloc (.cells #[.int .i64 opZero.id, .int .i64 opZero.proc, .int .i64 opZero.object, .int .i64 opZero.kind, .int .i64 opZero.method, .int .i64 opZero.arg, .int .i64 opZero.second, .bool opZero.done, .int .i64 opZero.result, .int .i64 opZero.invoke, .int .i64 opZero.ret] 40)) (n := w4.heap.size + 1) (by simp) 40 (opOf x).cells)).ext KB5.out (by simp)
          have HB5 := Lib.hid (HB4.out.ext K45.out hl4)
          have HJ5 := Lib.hid (HJ4.out.ext K45.out)
          have HO5 := Lib.hid (HOW4.out.ext K45.out)
          have hl5 : w.heap.size < w5.heap.size := by omega
          clear hb5 a0 a1 a2 a3 a4 a5 a6 a7 a8 a9
          obtain ⟨a0, a1, a2, a3, a4, a5, a6, a7, a8, a9⟩ := HB5.out
          obtain ⟨y, hy⟩ : ∃ y, opOf x = y := ⟨_, rfl⟩
          rw [hy] at HSI HKO HRI HIC
          rw [hy]
          have HYI : Hid (y.id = x.id ∧ y.proc = x.proc) := by rw [← hy]; exact ⟨rfl, rfl⟩
          clear hy
          obtain ⟨f, hf⟩ : ∃ f, chkL y = f := ⟨_, rfl⟩
          rw [hf] at HIC
          rw [hf]
          clear hf
          by_cases hf : f = 0
          · subst hf
            by_cases hr : x.result = 0
            · have q2 : (x.result != 0) = false := by simpa using hr
              rw [if_neg (fun h => h.2 hr)] at HIC
              clear hr
              have hj0 : ∀ W : World, Only (fun i => i = mo ∨ i = mq) w5 W → W.cell? ⟨j, 0, none⟩ = some (.map (some mo)) := fun W h => (h.cell HJ5.out.lt.1 (by have := HNE.out; omega)).trans (HJ5.out.1.cell 0)
              have hj1 : ∀ W : World, Only (fun i => i = mo ∨ i = mq) w5 W → W.cell? ⟨j, 1, none⟩ = some (.map (some mq)) := fun W h => (h.cell HJ5.out.lt.1 (by have := HNE.out; omega)).trans (HJ5.out.1.cell 1)
              have he : ∀ (i : Nat) (W : World), Only (fun i => i = mo ∨ i = mq) w5 W → W.cell? ⟨w.heap.size, i, none⟩ = w5.cell? ⟨w.heap.size, i, none⟩ := fun i W h => h.cell hl5 (by have := HLT.out; omega)
              have hlmo : mo < w4.heap.size ∧ mq < w4.heap.size := HJ4.out.lt.2
              have hy11 : ∀ W : World, Only (fun i => i = mo ∨ i = mq) w5 W → At11 W (w4.heap.size + 1) y := fun W h => by
                have c := fun i => h.cell (b := w4.heap.size + 1) (o := i) (by omega) (by omega)
                obtain ⟨g0, g1, g2, g3, g4, g5, g6, g7, g8, g9, g10⟩ := HKO.out
                exact ⟨(c 0).trans g0, (c 1).trans g1, (c 2).trans g2, (c 3).trans g3, (c 4).trans g4, (c 5).trans g5, (c 6).trans g6, (c 7).trans g7, (c 8).trans g8, (c 9).trans g9, (c 10).trans g10⟩
              have HKS : Hid (∀ W : World, Only (fun i => i = mo ∨ i = mq) w5 W → (W.cell? ⟨j, 0, none⟩ = some (.map (some mo)) ∧ W.cell? ⟨j, 1, none⟩ = some (.map (some mq)) ∧ W.cell? ⟨w.heap.size, 3, none⟩ = some (.int .i64 x.id) ∧ W.cell? ⟨w.heap.size, 1, none⟩ = some (.int .i64 x.proc) ∧ (W.cell? ⟨(w4.heap.size + 1), 0, none⟩ = some (.int .i64 y.id) ∧ W.cell? ⟨(w4.heap.size + 1), 1, none⟩ = some (.int .i64 y.proc) ∧ W.cell? ⟨(w4.heap.size + 1), 2, none⟩ = some (.int .i64 y.object) ∧ W.cell? ⟨(w4.heap.size + 1), 3, none⟩ = some (.int .i64 y.kind) ∧ W.cell? ⟨(w4.heap.size + 1), 4, none⟩ = some (.int .i64 y.method) ∧ W.cell? ⟨(w4.heap.size + 1), 5, none⟩ = some (.int .i64 y.arg) ∧ W.cell? ⟨(w4.heap.size + 1), 6, none⟩ = some (.int .i64 y.second) ∧ W.cell? ⟨(w4.heap.size + 1), 7, none⟩ = some (.bool y.done) ∧ W.cell? ⟨(w4.heap.size + 1), 8, none⟩ = some (.int .i64 y.result) ∧ W.cell? ⟨(w4.heap.size + 1), 9, none⟩ = some (.int .i64 y.invoke) ∧ W.cell? ⟨(w4.heap.size + 1), 10, none⟩ = some (.int .i64 y.ret)))) :=
                fun W h => ⟨hj0 W h, hj1 W h, (he 3 W h).trans HB5.out.2.2.2.1, (he 1 W h).trans HB5.out.2.1, hy11 W h⟩
              clear hj0 hj1 he hy11
              go_upto_region 18 with fail
              clear a0 a1 a2 a3 a4 a5 a6 a7 a8 a9
              refine wp_region_held_drew (S := fun W => W.cell? ⟨j, 0, none⟩ = some (.map (some mo)) ∧ W.cell? ⟨j, 1, none⟩ = some (.map (some mq)) ∧ W.cell? ⟨w.heap.size, 3, none⟩ = some (.int .i64 x.id) ∧ W.cell? ⟨w.heap.size, 1, none⟩ = some (.int .i64 x.proc) ∧ (W.cell? ⟨(w4.heap.size + 1), 0, none⟩ = some (.int .i64 y.id) ∧ W.cell? ⟨(w4.heap.size + 1), 1, none⟩ = some (.int .i64 y.proc) ∧ W.cell? ⟨(w4.heap.size + 1), 2, none⟩ = some (.int .i64 y.object) ∧ W.cell? ⟨(w4.heap.size + 1), 3, none⟩ = some (.int .i64 y.kind) ∧ W.cell? ⟨(w4.heap.size + 1), 4, none⟩ = some (.int .i64 y.method) ∧ W.cell? ⟨(w4.heap.size + 1), 5, none⟩ = some (.int .i64 y.arg) ∧ W.cell? ⟨(w4.heap.size + 1), 6, none⟩ = some (.int .i64 y.second) ∧ W.cell? ⟨(w4.heap.size + 1), 7, none⟩ = some (.bool y.done) ∧ W.cell? ⟨(w4.heap.size + 1), 8, none⟩ = some (.int .i64 y.result) ∧ W.cell? ⟨(w4.heap.size + 1), 9, none⟩ = some (.int .i64 y.invoke) ∧ W.cell? ⟨(w4.heap.size + 1), 10, none⟩ = some (.int .i64 y.ret))) (by kernel_rfl) (HKS.out _ (Only.drew Only.refl)) (fun hHeld => ?_)
              refine' wpAnyH_take (i := 0) (oi := ?zoi0g) (v := ?zv0g) ?zhi0g (by kernel_rfl) (by kernel_rfl) (by kernel_rfl) ?zhQ0g (Or.inl ⟨?zhw0g, ?zhy0g⟩) (by assumption) ?zrest0g; (case zhi0g => simp only [List.getElem?_toArray, List.getElem?_cons_succ, List.getElem?_cons_zero]; exact rfl); (case zhQ0g => exact fun _ _ _ h => h); (case zhw0g => rfl); (case zhy0g => intro w hSw; (try dsimp only at hSw); go_simp; (try with_reducible rfl)); (try simp only [Act.put, List.setIfInBounds_toArray, List.set_cons_zero, List.set_cons_succ])
              refine' wpAnyH_take (i := 1) (oi := ?zoi1g) (v := ?zv1g) ?zhi1g (by kernel_rfl) (by kernel_rfl) (by kernel_rfl) ?zhQ1g (Or.inl ⟨?zhw1g, ?zhy1g⟩) (by assumption) ?zrest1g; (case zhi1g => simp only [List.getElem?_toArray, List.getElem?_cons_succ, List.getElem?_cons_zero]; exact rfl); (case zhQ1g => exact fun _ _ _ h => h); (case zhw1g => rfl); (case zhy1g => intro w hSw; (try dsimp only at hSw); go_simp; (try with_reducible rfl)); (try simp only [Act.put, List.setIfInBounds_toArray, List.set_cons_zero, List.set_cons_succ])
              refine' wpAnyH_take (i := 2) (oi := ?zoi2g) (v := ?zv2g) ?zhi2g (by kernel_rfl) (by kernel_rfl) (by kernel_rfl) ?zhQ2g (Or.inl ⟨?zhw2g, ?zhy2g⟩) (by assumption) ?zrest2g; (case zhi2g => simp only [List.getElem?_toArray, List.getElem?_cons_succ, List.getElem?_cons_zero]; exact rfl); (case zhQ2g => exact fun _ _ _ h => h); (case zhw2g => rfl); (case zhy2g => intro w hSw; (try dsimp only at hSw); go_simp; (try with_reducible rfl)); (try simp only [Act.put, List.setIfInBounds_toArray, List.set_cons_zero, List.set_cons_succ])
              refine' wpAnyH_take (i := 3) (oi := ?zoi3g) (v := ?zv3g) ?zhi3g (by kernel_rfl) (by kernel_rfl) (by kernel_rfl) ?zhQ3g (Or.inl ⟨?zhw3g, ?zhy3g⟩) (by assumption) ?zrest3g; (case zhi3g => simp only [List.getElem?_toArray, List.getElem?_cons_succ, List.getElem?_cons_zero]; exact rfl); (case zhQ3g => exact fun _ _ _ h => h); (case zhw3g => rfl); (case zhy3g => intro w hSw; (try dsimp only at hSw); go_simp; (try with_reducible rfl)); (try simp only [Act.put, List.setIfInBounds_toArray, List.set_cons_zero, List.set_cons_succ])
              refine' wpAnyH_take (i := 4) (oi := ?zoi4g) (v := ?zv4g) ?zhi4g (by kernel_rfl) (by kernel_rfl) (by kernel_rfl) ?zhQ4g (Or.inl ⟨?zhw4g, ?zhy4g⟩) (by assumption) ?zrest4g; (case zhi4g => simp only [List.getElem?_toArray, List.getElem?_cons_succ, List.getElem?_cons_zero]; exact rfl); (case zhQ4g => exact fun _ _ _ h => h); (case zhw4g => rfl); (case zhy4g => intro w hSw; (try dsimp only at hSw); go_simp; (try with_reducible rfl)); (try simp only [Act.put, List.setIfInBounds_toArray, List.set_cons_zero, List.set_cons_succ])
              refine' wpAnyH_take (i := 5) (oi := ?zoi5g) (v := ?zv5g) ?zhi5g (by kernel_rfl) (by kernel_rfl) (by kernel_rfl) ?zhQ5g (Or.inl ⟨?zhw5g, ?zhy5g⟩) (by assumption) ?zrest5g; (case zhi5g => simp only [List.getElem?_toArray, List.getElem?_cons_succ, List.getElem?_cons_zero]; exact rfl); (case zhQ5g => exact fun _ _ _ h => h); (case zhw5g => rfl); (case zhy5g => intro w hSw; (try dsimp only at hSw); go_simp; (try with_reducible rfl)); (try simp only [Act.put, List.setIfInBounds_toArray, List.set_cons_zero, List.set_cons_succ])
              refine' wpAnyH_take (i := 6) (oi := ?zoi6g) (v := ?zv6g) ?zhi6g (by kernel_rfl) (by kernel_rfl) (by kernel_rfl) ?zhQ6g (Or.inl ⟨?zhw6g, ?zhy6g⟩) (by assumption) ?zrest6g; (case zhi6g => simp only [List.getElem?_toArray, List.getElem?_cons_succ, List.getElem?_cons_zero]; exact rfl); (case zhQ6g => exact fun _ _ _ h => h); (case zhw6g => rfl); (case zhy6g => intro w hSw; (try dsimp only at hSw); go_simp; (try with_reducible rfl)); (try simp only [Act.put, List.setIfInBounds_toArray, List.set_cons_zero, List.set_cons_succ])
              refine' wpAnyH_take (i := 7) (oi := ?zoi7g) (v := ?zv7g) ?zhi7g (by kernel_rfl) (by kernel_rfl) (by kernel_rfl) ?zhQ7g (Or.inl ⟨?zhw7g, ?zhy7g⟩) (by assumption) ?zrest7g; (case zhi7g => simp only [List.getElem?_toArray, List.getElem?_cons_succ, List.getElem?_cons_zero]; exact rfl); (case zhQ7g => exact fun _ _ _ h => h); (case zhw7g => rfl); (case zhy7g => intro w hSw; (try dsimp only at hSw); go_simp; (try with_reducible rfl)); (try simp only [Act.put, List.setIfInBounds_toArray, List.set_cons_zero, List.set_cons_succ])
              refine' wpAnyH_take (i := 8) (oi := ?zoi8g) (v := ?zv8g) ?zhi8g (by kernel_rfl) (by kernel_rfl) (by kernel_rfl) ?zhQ8g (Or.inl ⟨?zhw8g, ?zhy8g⟩) (by assumption) ?zrest8g; (case zhi8g => simp only [List.getElem?_toArray, List.getElem?_cons_succ, List.getElem?_cons_zero]; exact rfl); (case zhQ8g => exact fun _ _ _ h => h); (case zhw8g => rfl); (case zhy8g => intro w hSw; (try dsimp only at hSw); go_simp; (try with_reducible rfl)); (try simp only [Act.put, List.setIfInBounds_toArray, List.set_cons_zero, List.set_cons_succ])
              refine' wpAnyH_take (i := 9) (oi := ?zoi9g) (v := ?zv9g) ?zhi9g (by kernel_rfl) (by kernel_rfl) (by kernel_rfl) ?zhQ9g (Or.inl ⟨?zhw9g, ?zhy9g⟩) (by assumption) ?zrest9g; (case zhi9g => simp only [List.getElem?_toArray, List.getElem?_cons_succ, List.getElem?_cons_zero]; exact rfl); (case zhQ9g => exact fun _ _ _ h => h); (case zhw9g => rfl); (case zhy9g => intro w hSw; (try dsimp only at hSw); go_simp; (try with_reducible rfl)); (try simp only [Act.put, List.setIfInBounds_toArray, List.set_cons_zero, List.set_cons_succ])
              refine' wpAnyH_take (i := 10) (oi := ?zoi10g) (v := ?zv10g) ?zhi10g (by kernel_rfl) (by kernel_rfl) (by kernel_rfl) ?zhQ10g (Or.inl ⟨?zhw10g, ?zhy10g⟩) (by assumption) ?zrest10g; (case zhi10g => simp only [List.getElem?_toArray, List.getElem?_cons_succ, List.getElem?_cons_zero]; exact rfl); (case zhQ10g => exact fun _ _ _ h => h); (case zhw10g => rfl); (case zhy10g => intro w hSw; (try dsimp only at hSw); go_simp; (try with_reducible rfl)); (try simp only [Act.put, List.setIfInBounds_toArray, List.set_cons_zero, List.set_cons_succ])
              refine' wpAnyH_take (i := 11) (oi := ?zoi11g) (v := ?zv11g) ?zhi11g (by kernel_rfl) (by kernel_rfl) (by kernel_rfl) ?zhQ11g (Or.inl ⟨?zhw11g, ?zhy11g⟩) (by assumption) ?zrest11g; (case zhi11g => simp only [List.getElem?_toArray, List.getElem?_cons_succ, List.getElem?_cons_zero]; exact rfl); (case zhQ11g => exact fun _ _ _ h => h); (case zhw11g => rfl); (case zhy11g => intro w hSw; (try dsimp only at hSw); go_simp; (try with_reducible rfl)); (try simp only [Act.put, List.setIfInBounds_toArray, List.set_cons_zero, List.set_cons_succ])
              refine' wpAnyH_take (i := 12) (oi := ?zoi12g) (v := ?zv12g) ?zhi12g (by kernel_rfl) (by kernel_rfl) (by kernel_rfl) ?zhQ12g (Or.inl ⟨?zhw12g, ?zhy12g⟩) (by assumption) ?zrest12g; (case zhi12g => simp only [List.getElem?_toArray, List.getElem?_cons_succ, List.getElem?_cons_zero]; exact rfl); (case zhQ12g => exact fun _ _ _ h => h); (case zhw12g => rfl); (case zhy12g => intro w hSw; (try dsimp only at hSw); go_simp; (try with_reducible rfl)); (try simp only [Act.put, List.setIfInBounds_toArray, List.set_cons_zero, List.set_cons_succ])
              refine' wpAnyH_take (i := 13) (oi := ?zoi13g) (v := ?zv13g) ?zhi13g (by kernel_rfl) (by kernel_rfl) (by kernel_rfl) ?zhQ13g (Or.inl ⟨?zhw13g, ?zhy13g⟩) (by assumption) ?zrest13g; (case zhi13g => simp only [List.getElem?_toArray, List.getElem?_cons_succ, List.getElem?_cons_zero]; exact rfl); (case zhQ13g => exact fun _ _ _ h => h); (case zhw13g => rfl); (case zhy13g => intro w hSw; (try dsimp only at hSw); go_simp; (try with_reducible rfl)); (try simp only [Act.put, List.setIfInBounds_toArray, List.set_cons_zero, List.set_cons_succ])
              refine' wpAnyH_take (i := 14) (oi := ?zoi14g) (v := ?zv14g) ?zhi14g (by kernel_rfl) (by kernel_rfl) (by kernel_rfl) ?zhQ14g (Or.inl ⟨?zhw14g, ?zhy14g⟩) (by assumption) ?zrest14g; (case zhi14g => simp only [List.getElem?_toArray, List.getElem?_cons_succ, List.getElem?_cons_zero]; exact rfl); (case zhQ14g => exact fun _ _ _ h => h); (case zhw14g => rfl); (case zhy14g => intro w hSw; (try dsimp only at hSw); go_simp; (try with_reducible rfl)); (try simp only [Act.put, List.setIfInBounds_toArray, List.set_cons_zero, List.set_cons_succ])
              obtain ⟨wA, sA, hrA, htA, hnA⟩ := MapI.entry (w := w5.drew) (t := 51) (HJ5.out.ext (Below.drew (Ext.refl _))).2.1 Tryd.underlying3 Tryd.underlying51 (Tryd.zOp _) (by omega) HX.out.2.1 HM0.out
              have HOA : Hid (Only (fun i => i = mo ∨ i = mq) w5 wA) := Only.turn (Only.drew Only.refl) htA (.inl (.inl rfl))
              have HNA := Lib.hid hnA
              have HQA : Hid (MapI wA 3 mq n (Value.int .i64) Q) := HJ5.out.2.2.1.block (by have h := htA.block mq HJ5.out.lt.2.2 (fun q => by injection q with q; exact HNE.out.2.2 q.symm); exact h)
              clear hnA htA
              refine wpAnyH_ready (rs := [15]) (by kernel_rfl) (by simp) ?_; refine AllReadyH.cons rfl (fun K hK => ?_) AllReadyH.nil; go_simp
              refine hK.out _ _ (HKS.out _ HOA.out) (fun hHeld => ?_)
              clear hK K
              (try simp only [Act.put, List.setIfInBounds_toArray, List.set_cons_zero, List.set_cons_succ])
              refine' wpAnyH_take (i := 16) (oi := ?zoi16g) (v := ?zv16g) ?zhi16g (by kernel_rfl) (by kernel_rfl) (by kernel_rfl) ?zhQ16g (Or.inl ⟨?zhw16g, ?zhy16g⟩) (by assumption) ?zrest16g; (case zhi16g => simp only [List.getElem?_toArray, List.getElem?_cons_succ, List.getElem?_cons_zero]; exact rfl); (case zhQ16g => exact fun _ _ _ h => h); (case zhw16g => rfl); (case zhy16g => intro w hSw; (try dsimp only at hSw); go_simp; (try with_reducible rfl)); (try simp only [Act.put, List.setIfInBounds_toArray, List.set_cons_zero, List.set_cons_succ])
              obtain ⟨wB, hrB, hmB, htB⟩ := HNA.out wA rfl y _ rfl
              have HOB : Hid (Only (fun i => i = mo ∨ i = mq) w5 wB) := Only.turn HOA.out htB (.inl (.inl rfl))
              have HMB := Lib.hid hmB
              have HQB : Hid (MapI wB 3 mq n (Value.int .i64) Q) := HQA.out.block (by have h := htB.block mq HQA.out.lt (fun q => by injection q with q; exact HNE.out.2.2 q.symm); exact h)
              clear hmB htB
              refine wpAnyH_ready (rs := [17]) (by kernel_rfl) (by simp) ?_; refine AllReadyH.cons rfl (fun K hK => ?_) AllReadyH.nil; go_simp
              refine hK.out _ _ (HKS.out _ HOB.out) (fun hHeld => ?_)
              clear hK K
              (try simp only [Act.put, List.setIfInBounds_toArray, List.set_cons_zero, List.set_cons_succ])
              obtain ⟨wC, sC, hrC, htC, hnC⟩ := MapI.entry (w := wB) (t := 52) HQB.out Tryd.underlying3 Tryd.underlying52 (Tryd.zInt _) (by omega) HX.out.1 HQ0.out
              have HOC : Hid (Only (fun i => i = mo ∨ i = mq) w5 wC) := Only.turn HOB.out htC (.inl (.inr rfl))
              have HNC := Lib.hid hnC
              have HMC : Hid (MapI wC 3 mo (n + 1) OpD.val (updI M x.id (some y))) := HMB.out.block (by have h := htC.block mo HMB.out.lt (fun q => by injection q with q; exact HNE.out.2.2 q); exact h)
              clear hnC htC
              refine wpAnyH_ready (rs := [18]) (by kernel_rfl) (by simp) ?_; refine AllReadyH.cons rfl (fun K hK => ?_) AllReadyH.nil; go_simp
              refine hK.out _ _ (HKS.out _ HOC.out) (fun hHeld => ?_)
              clear hK K
              (try simp only [Act.put, List.setIfInBounds_toArray, List.set_cons_zero, List.set_cons_succ])
              refine' wpAnyH_take (i := 19) (oi := ?zoi19g) (v := ?zv19g) ?zhi19g (by kernel_rfl) (by kernel_rfl) (by kernel_rfl) ?zhQ19g (Or.inl ⟨?zhw19g, ?zhy19g⟩) (by assumption) ?zrest19g; (case zhi19g => simp only [List.getElem?_toArray, List.getElem?_cons_succ, List.getElem?_cons_zero]; exact rfl); (case zhQ19g => exact fun _ _ _ h => h); (case zhw19g => rfl); (case zhy19g => intro w hSw; (try dsimp only at hSw); go_simp; (try with_reducible rfl)); (try simp only [Act.put, List.setIfInBounds_toArray, List.set_cons_zero, List.set_cons_succ])
              obtain ⟨wD, hrD, hmD, htD⟩ := HNC.out wC rfl x.id _ rfl
              have HOD : Hid (Only (fun i => i = mo ∨ i = mq) w5 wD) := Only.turn HOC.out htD (.inl (.inr rfl))
              have HQD := Lib.hid hmD
              have HMD : Hid (MapI wD 3 mo (n + 1) OpD.val (updI M x.id (some y))) := HMC.out.block (by have h := htD.block mo HMC.out.lt (fun q => by injection q with q; exact HNE.out.2.2 q); exact h)
              clear hmD htD
              refine wpAnyH_ready (rs := [20]) (by kernel_rfl) (by simp) ?_; refine AllReadyH.cons rfl (fun K hK => ?_) AllReadyH.nil; go_simp
              refine hK.out _ _ (HKS.out _ HOD.out) (fun hHeld => ?_)
              clear hK K
              (try simp only [Act.put, List.setIfInBounds_toArray, List.set_cons_zero, List.set_cons_succ])
              refine wpAnyH_done (by kernel_rfl) ?_ _
              clear hHeld
              go_wp2_with fail
              go_ret
              rw [HST2.out, HSI.out]
              have hri := HRI.out
              rw [HYI.out.1, HYI.out.2] at hri
              refine ⟨by rw [HIC.out]; rfl, HO5.out.trans HOD.out (fun i q => .inl (by unfold Jmay; omega)), fun _ => ⟨_, _, ⟨HOD.out.row HJ5.out.1 (by have := HNE.out; omega), HMD.out, HQD.out, HNE.out.2.2⟩, hri⟩⟩
            · have q2 : (x.result != 0) = true := by simpa using hr
              rw [if_pos ⟨rfl, hr⟩] at HIC
              clear hr
              go_wp2_with fail
              go_ret
              rw [HST2.out, HSI.out]
              exact ⟨by rw [HIC.out]; rfl, HO5.out.ext (by (repeat' (with_reducible first | exact Below.refl _ _ | refine Ext.drewN ?_ _ | refine Below.drew ?_ | refine Below.setCell ?_ ?_ _ | refine Below.alloc ?_ ?_ _)) <;> (first | omega | (simp; done) | (simp; omega))), fun h => by rw [HIC.out] at h; exact absurd h (by simp)⟩
          · have q1 : (f != 0) = true := by simpa using hf
            have q1' : (f == 0) = false := by simpa using hf
            rw [if_neg (fun h => hf h.1)] at HIC
            go_wp2_with fail
            go_ret
            rw [HST2.out, HSI.out]
            exact ⟨by rw [HIC.out]; rfl, HO5.out.ext (by (repeat' (with_reducible first | exact Below.refl _ _ | refine Ext.drewN ?_ _ | refine Below.drew ?_ | refine Below.setCell ?_ ?_ _ | refine Below.alloc ?_ ?_ _)) <;> (first | omega | (simp; done) | (simp; omega))), fun h => by rw [HIC.out] at h; exact absurd h hf⟩
end Go.Proofs.YtgpnockjonicpaaDoor
