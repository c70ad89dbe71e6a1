/- Events as data; their order (event.order, ref26.Ahead). No conditions. -/
/- event.order: the program's order of events. No conditions. -/
/- event.order: the program's order of events. No conditions. Printed by ev3.py. -/
import Derived.Test.YtgpnockjonicpaaDoorOwnL
import Derived.Test.YtgpnockjonicpaaDoorGrew
namespace Go.Proofs.YtgpnockjonicpaaDoor
set_option linter.unusedSimpArgs false
set_option linter.unusedVariables false
open Go.RowKit

/-- an event -/
structure EvD where
  time : Int
  proc : Int
  answer : Bool
  id : Int
  object : Int
  kind : Int
  method : Int
  arg : Int
  second : Int
  result : Int
deriving DecidableEq
def EvD.cells (o : EvD) : List Value := [.int .i64 o.time, .int .i64 o.proc, .bool o.answer, .int .i64 o.id, .int .i64 o.object, .int .i64 o.kind, .int .i64 o.method, .int .i64 o.arg, .int .i64 o.second, .int .i64 o.result]
abbrev EvD.val (o : EvD) : Value := .agg #[.int .i64 o.time, .int .i64 o.proc, .bool o.answer, .int .i64 o.id, .int .i64 o.object, .int .i64 o.kind, .int .i64 o.method, .int .i64 o.arg, .int .i64 o.second, .int .i64 o.result]
def REv (o : EvD) (cs : List Value) : Prop := cs = o.cells
theorem ev_len (o : EvD) : o.cells.length = 10 := rfl
theorem ev_one (o : EvD) : ∀ u ∈ o.cells, u.oneCell' = true := by
  intro u hu
  simp only [EvD.cells, List.mem_cons, List.not_mem_nil, or_false] at hu
  rcases hu with rfl | rfl | rfl | rfl | rfl | rfl | rfl | rfl | rfl | rfl <;> rfl
def At10 (w : World) (b : Nat) (o : EvD) : Prop := (w.cell? ⟨b, 0, none⟩ = some (.int .i64 o.time) ∧ w.cell? ⟨b, 1, none⟩ = some (.int .i64 o.proc) ∧ w.cell? ⟨b, 2, none⟩ = some (.bool o.answer) ∧ w.cell? ⟨b, 3, none⟩ = some (.int .i64 o.id) ∧ w.cell? ⟨b, 4, none⟩ = some (.int .i64 o.object) ∧ w.cell? ⟨b, 5, none⟩ = some (.int .i64 o.kind) ∧ w.cell? ⟨b, 6, none⟩ = some (.int .i64 o.method) ∧ w.cell? ⟨b, 7, none⟩ = some (.int .i64 o.arg) ∧ w.cell? ⟨b, 8, none⟩ = some (.int .i64 o.second) ∧ w.cell? ⟨b, 9, none⟩ = some (.int .i64 o.result))
theorem At10.ext {w w' : World} {b : Nat} {o : EvD} (h : At10 w b o) (hb : Ext w w') (hlt : b < w.heap.size) : At10 w' b o := by
  obtain ⟨h0, h1, h2, h3, h4, h5, h6, h7, h8, h9⟩ := h
  have c := fun i => hb.cell (p := ⟨b, i, none⟩) hlt
  exact ⟨(c 0).trans h0, (c 1).trans h1, (c 2).trans h2, (c 3).trans h3, (c 4).trans h4, (c 5).trans h5, (c 6).trans h6, (c 7).trans h7, (c 8).trans h8, (c 9).trans h9⟩
theorem At10.row {w : World} {b : Nat} {t : TypeId} {o : EvD} (h : Row1 w b t o.cells) : At10 w b o :=
  ⟨h.cell 0, h.cell 1, h.cell 2, h.cell 3, h.cell 4, h.cell 5, h.cell 6, h.cell 7, h.cell 8, h.cell 9⟩

def aheadE (a b : EvD) : Bool := if a.time = b.time then (if a.answer = b.answer then decide (a.id < b.id) else b.answer) else decide (a.time < b.time)
set_option maxRecDepth 100000 in
set_option maxHeartbeats 2000000 in
theorem refAheadE_any (a b : EvD) (w : World) : Calls Tryd.prog 34 #[a.val, b.val] w fun e w' => e = .returned (.bool (aheadE a b)) ∧ Ext w w' := by
  have HV : Hid (aheadE a b = if a.time = b.time then (if a.answer = b.answer then decide (a.id < b.id) else b.answer) else decide (a.time < b.time)) := rfl
  by_cases h1 : a.time = b.time
  · have q1 : (a.time != b.time) = false := by simpa using h1
    rw [if_pos h1] at HV
    clear h1
    by_cases h2 : a.answer = b.answer
    · have q2 : (a.answer == b.answer) = true := by simp [h2]
      rw [if_pos h2] at HV
      clear h2
      go_enter Tryd.func34, Tryd.ntmps34
      go_wp2_with fail
      go_ret
      exact ⟨by rw [HV.out]; rfl, by (repeat' (with_reducible first | exact Below.refl _ _ | refine Ext.drewN ?_ _ | refine Below.drew ?_ | refine Below.setCell ?_ ?_ _ | refine Below.alloc ?_ ?_ _)) <;> (first | omega | (simp; done) | (simp; omega))⟩
    · have q2 : (a.answer == b.answer) = false := by simpa using h2
      rw [if_neg h2] at HV
      clear h2
      go_enter Tryd.func34, Tryd.ntmps34
      go_wp2_with fail
      go_ret
      exact ⟨by rw [HV.out]; rfl, by (repeat' (with_reducible first | exact Below.refl _ _ | refine Ext.drewN ?_ _ | refine Below.drew ?_ | refine Below.setCell ?_ ?_ _ | refine Below.alloc ?_ ?_ _)) <;> (first | omega | (simp; done) | (simp; omega))⟩
  · have q1 : (a.time != b.time) = true := by simpa using h1
    rw [if_neg h1] at HV
    clear h1
    go_enter Tryd.func34, Tryd.ntmps34
    go_wp2_with fail
    go_ret
    exact ⟨by rw [HV.out]; rfl, by (repeat' (with_reducible first | exact Below.refl _ _ | refine Ext.drewN ?_ _ | refine Below.drew ?_ | refine Below.setCell ?_ ?_ _ | refine Below.alloc ?_ ?_ _)) <;> (first | omega | (simp; done) | (simp; omega))⟩

def ansI (o : EvD) : Int := if o.answer then 1 else 0
theorem ansOne_any (o : EvD) (w : World) : Calls Tryd.prog 32 #[o.val] w fun e w' => e = .returned (.int .i64 (ansI o)) ∧ w' = w.alloc (.cells #[.int .i64 o.time, .int .i64 o.proc, .bool o.answer, .int .i64 o.id, .int .i64 o.object, .int .i64 o.kind, .int .i64 o.method, .int .i64 o.arg, .int .i64 o.second, .int .i64 o.result] 42) := by
  unfold ansI
  obtain ⟨an, han⟩ : ∃ an, o.answer = an := ⟨_, rfl⟩
  have HAN := Lib.hid han
  cases an with
  | true =>
    go_enter Tryd.func32, Tryd.ntmps32
    go_wp2_with fail
    all_goals go_ret
    all_goals (first | exact ⟨rfl, rfl⟩ | (exact ⟨by first | rfl | (rw [HAN.out]; rfl) | (simp [HAN.out]; done), by first | rfl | rw [HAN.out]⟩) | (exfalso; simp_all; done))
  | false =>
    go_enter Tryd.func32, Tryd.ntmps32
    go_wp2_with fail
    all_goals go_ret
    all_goals (first | exact ⟨rfl, rfl⟩ | (exact ⟨by first | rfl | (rw [HAN.out]; rfl) | (simp [HAN.out]; done), by first | rfl | rw [HAN.out]⟩) | (exfalso; simp_all; done))
end Go.Proofs.YtgpnockjonicpaaDoor
namespace Go.Proofs.YtgpnockjonicpaaDoor
set_option linter.unusedSimpArgs false
set_option linter.unusedVariables false
open Go.RowKit Go.Sort Go.Shelf Go.Proofs

def orI3 (x y z : Int) : Int := if x = 0 then (if y = 0 then z else y) else x
set_option maxHeartbeats 1000000 in
theorem cmpOr3_any (g : Nat) (c : Nat) (x y z : Int) (w : World) (h0 : w.cell? ⟨g, 0, none⟩ = some (.int .i64 x)) (h1 : w.cell? ⟨g, 1, none⟩ = some (.int .i64 y)) (h2 : w.cell? ⟨g, 2, none⟩ = some (.int .i64 z)) :
    Calls Tryd.prog 33 #[.slice (some ⟨g, 0, none⟩) 3 c] w fun e w' => e = .returned (.int .i64 (orI3 x y z)) ∧ w' = w := by
  have HV : Hid (orI3 x y z = if x = 0 then (if y = 0 then z else y) else x) := rfl
  by_cases hx : x = 0
  · rw [if_pos hx] at HV
    subst hx
    by_cases hy : y = 0
    · rw [if_pos hy] at HV
      subst hy
      by_cases hz : z = 0
      · subst hz
        go_enter Tryd.func33, Tryd.ntmps33
        go_wp2
        go_loop [8] (fun i => i = .int .i64 0 ∨ i = .int .i64 1 ∨ i = .int .i64 2 ∨ i = .int .i64 3) (fun i => 3 - (intOf i).toNat)
        case atStart => exact .inl rfl
        case round =>
          rcases hrel with rfl | rfl | rfl | rfl
          · go_wp2
            go_round
            case rel => exact .inr (.inl rfl)
            case measure => simp [intOf]
          · go_wp2
            go_round
            case rel => exact .inr (.inr (.inl rfl))
            case measure => simp [intOf]
          · go_wp2
            go_round
            case rel => exact .inr (.inr (.inr rfl))
            case measure => simp [intOf]
          · go_wp2
            go_ret
            exact ⟨by rw [HV.out]; rfl, rfl⟩
      · have q : (z == 0) = false := by simpa using hz
        have q' : (z != 0) = true := by simpa using hz
        clear hz
        go_enter Tryd.func33, Tryd.ntmps33
        go_wp2
        go_loop [8] (fun i => i = .int .i64 0 ∨ i = .int .i64 1 ∨ i = .int .i64 2) (fun i => 3 - (intOf i).toNat)
        case atStart => exact .inl rfl
        case round =>
          rcases hrel with rfl | rfl | rfl
          · go_wp2
            go_round
            case rel => exact .inr (.inl rfl)
            case measure => simp [intOf]
          · go_wp2
            go_round
            case rel => exact .inr (.inr rfl)
            case measure => simp [intOf]
          · go_wp2
            go_ret
            exact ⟨by rw [HV.out]; rfl, rfl⟩
    · rw [if_neg hy] at HV
      have q : (y == 0) = false := by simpa using hy
      have q' : (y != 0) = true := by simpa using hy
      clear hy
      go_enter Tryd.func33, Tryd.ntmps33
      go_wp2
      go_loop [8] (fun i => i = .int .i64 0 ∨ i = .int .i64 1) (fun i => 3 - (intOf i).toNat)
      case atStart => exact .inl rfl
      case round =>
        rcases hrel with rfl | rfl
        · go_wp2
          go_round
          case rel => exact .inr rfl
          case measure => simp [intOf]
        · go_wp2
          go_ret
          exact ⟨by rw [HV.out]; rfl, rfl⟩
  · rw [if_neg hx] at HV
    have q : (x == 0) = false := by simpa using hx
    have q' : (x != 0) = true := by simpa using hx
    clear hx
    go_enter Tryd.func33, Tryd.ntmps33
    go_wp2
    go_loop [8] (fun i => i = .int .i64 0) (fun i => 3 - (intOf i).toNat)
    case atStart => rfl
    case round =>
      obtain rfl := hrel
      go_wp2
      go_ret
      exact ⟨by rw [HV.out]; rfl, rfl⟩
end Go.Proofs.YtgpnockjonicpaaDoor
namespace Go.Proofs.YtgpnockjonicpaaDoor
set_option linter.unusedSimpArgs false
set_option linter.unusedVariables false
open Go.RowKit Go.Sort Go.Shelf Go.Proofs

def evCmp (a b : EvD) : Int := orI3 (cmpI a.time b.time) (cmpI (ansI a) (ansI b)) (cmpI a.id b.id)
theorem ltE (a b : EvD) : decide (evCmp a b < 0) = aheadE a b := by
  unfold evCmp aheadE orI3 cmpI ansI
  by_cases h1 : a.time < b.time
  · have h2 : ¬ a.time = b.time := by omega
    simp [h1, h2]
  · by_cases h2 : b.time < a.time
    · have h3 : ¬ a.time = b.time := by omega
      simp [h1, h2, h3]
    · have h3 : a.time = b.time := by omega
      rw [if_pos h3]
      cases ha : a.answer <;> cases hb : b.answer <;> simp [h1, h2] <;> (repeat' split) <;> simp_all <;> omega
set_option maxRecDepth 100000 in
set_option maxHeartbeats 2000000 in
theorem evOrder_any (a b : EvD) (w : World) : Calls Tryd.prog 17 #[a.val, b.val] w fun e w' => e = .returned (.int .i64 (evCmp a b)) ∧ Grew w w' := by
  have HV : Hid (evCmp a b = orI3 (cmpI a.time b.time) (cmpI (ansI a) (ansI b)) (cmpI a.id b.id)) := rfl
  have HKS : Hid (∀ W : World, Ext ((w.alloc (.cells #[.int .i64 a.time, .int .i64 a.proc, .bool a.answer, .int .i64 a.id, .int .i64 a.object, .int .i64 a.kind, .int .i64 a.method, .int .i64 a.arg, .int .i64 a.second, .int .i64 a.result] 42)).alloc (.cells #[.int .i64 b.time, .int .i64 b.proc, .bool b.answer, .int .i64 b.id, .int .i64 b.object, .int .i64 b.kind, .int .i64 b.method, .int .i64 b.arg, .int .i64 b.second, .int .i64 b.result] 42)) W → (((W.cell? ⟨w.heap.size, 0, none⟩ = some (.int .i64 a.time) ∧ W.cell? ⟨w.heap.size, 1, none⟩ = some (.int .i64 a.proc) ∧ W.cell? ⟨w.heap.size, 2, none⟩ = some (.bool a.answer) ∧ W.cell? ⟨w.heap.size, 3, none⟩ = some (.int .i64 a.id) ∧ W.cell? ⟨w.heap.size, 4, none⟩ = some (.int .i64 a.object) ∧ W.cell? ⟨w.heap.size, 5, none⟩ = some (.int .i64 a.kind) ∧ W.cell? ⟨w.heap.size, 6, none⟩ = some (.int .i64 a.method) ∧ W.cell? ⟨w.heap.size, 7, none⟩ = some (.int .i64 a.arg) ∧ W.cell? ⟨w.heap.size, 8, none⟩ = some (.int .i64 a.second) ∧ W.cell? ⟨w.heap.size, 9, none⟩ = some (.int .i64 a.result))) ∧ ((W.cell? ⟨(w.heap.size + 1), 0, none⟩ = some (.int .i64 b.time) ∧ W.cell? ⟨(w.heap.size + 1), 1, none⟩ = some (.int .i64 b.proc) ∧ W.cell? ⟨(w.heap.size + 1), 2, none⟩ = some (.bool b.answer) ∧ W.cell? ⟨(w.heap.size + 1), 3, none⟩ = some (.int .i64 b.id) ∧ W.cell? ⟨(w.heap.size + 1), 4, none⟩ = some (.int .i64 b.object) ∧ W.cell? ⟨(w.heap.size + 1), 5, none⟩ = some (.int .i64 b.kind) ∧ W.cell? ⟨(w.heap.size + 1), 6, none⟩ = some (.int .i64 b.method) ∧ W.cell? ⟨(w.heap.size + 1), 7, none⟩ = some (.int .i64 b.arg) ∧ W.cell? ⟨(w.heap.size + 1), 8, none⟩ = some (.int .i64 b.second) ∧ W.cell? ⟨(w.heap.size + 1), 9, none⟩ = some (.int .i64 b.result))))) :=
    fun W hb => ⟨((At10.row (Row1.made w 42 a.cells)).ext (Ext.alloc _ (.cells #[.int .i64 b.time, .int .i64 b.proc, .bool b.answer, .int .i64 b.id, .int .i64 b.object, .int .i64 b.kind, .int .i64 b.method, .int .i64 b.arg, .int .i64 b.second, .int .i64 b.result] 42)) (by simp)).ext hb (by first | (simp; done) | (simp; omega) | omega), (At10.row (Row1.made' (w := w.alloc (.cells #[.int .i64 a.time, .int .i64 a.proc, .bool a.answer, .int .i64 a.id, .int .i64 a.object, .int .i64 a.kind, .int .i64 a.method, .int .i64 a.arg, .int .i64 a.second, .int .i64 a.result] 42)) (n := w.heap.size + 1) (by simp) 42 b.cells)).ext hb (by first | (simp; done) | (simp; omega) | omega)⟩
  go_enter Tryd.func17, Tryd.ntmps17
  go_wp2_with fail
  refine wp_region_held_drew (S := fun w' => (((w'.cell? ⟨w.heap.size, 0, none⟩ = some (.int .i64 a.time) ∧ w'.cell? ⟨w.heap.size, 1, none⟩ = some (.int .i64 a.proc) ∧ w'.cell? ⟨w.heap.size, 2, none⟩ = some (.bool a.answer) ∧ w'.cell? ⟨w.heap.size, 3, none⟩ = some (.int .i64 a.id) ∧ w'.cell? ⟨w.heap.size, 4, none⟩ = some (.int .i64 a.object) ∧ w'.cell? ⟨w.heap.size, 5, none⟩ = some (.int .i64 a.kind) ∧ w'.cell? ⟨w.heap.size, 6, none⟩ = some (.int .i64 a.method) ∧ w'.cell? ⟨w.heap.size, 7, none⟩ = some (.int .i64 a.arg) ∧ w'.cell? ⟨w.heap.size, 8, none⟩ = some (.int .i64 a.second) ∧ w'.cell? ⟨w.heap.size, 9, none⟩ = some (.int .i64 a.result))) ∧ ((w'.cell? ⟨(w.heap.size + 1), 0, none⟩ = some (.int .i64 b.time) ∧ w'.cell? ⟨(w.heap.size + 1), 1, none⟩ = some (.int .i64 b.proc) ∧ w'.cell? ⟨(w.heap.size + 1), 2, none⟩ = some (.bool b.answer) ∧ w'.cell? ⟨(w.heap.size + 1), 3, none⟩ = some (.int .i64 b.id) ∧ w'.cell? ⟨(w.heap.size + 1), 4, none⟩ = some (.int .i64 b.object) ∧ w'.cell? ⟨(w.heap.size + 1), 5, none⟩ = some (.int .i64 b.kind) ∧ w'.cell? ⟨(w.heap.size + 1), 6, none⟩ = some (.int .i64 b.method) ∧ w'.cell? ⟨(w.heap.size + 1), 7, none⟩ = some (.int .i64 b.arg) ∧ w'.cell? ⟨(w.heap.size + 1), 8, none⟩ = some (.int .i64 b.second) ∧ w'.cell? ⟨(w.heap.size + 1), 9, none⟩ = some (.int .i64 b.result))))) (by kernel_rfl) (HKS.out _ (by (repeat' (with_reducible first | exact Below.refl _ _ | refine Ext.drewN ?_ _ | refine Below.drew ?_ | refine Below.setCell ?_ ?_ _ | refine Below.alloc ?_ ?_ _)) <;> (first | omega | (simp; done) | (simp; omega)))) (fun hHeld => ?_)
  refine' wpAnyH_take (i := 0) (oi := ?zoi0a) (v := ?zv0a) ?zhi0a (by kernel_rfl) (by kernel_rfl) (by kernel_rfl) ?zhQ0a (Or.inl ⟨?zhw0a, ?zhy0a⟩) (by assumption) ?zrest0a; (case zhi0a => simp only [List.getElem?_toArray, List.getElem?_cons_succ, List.getElem?_cons_zero]; exact rfl); (case zhQ0a => exact fun _ _ _ h => h); (case zhw0a => rfl); (case zhy0a => intro w hSw; (try dsimp only at hSw); go_simp; (try with_reducible rfl)); (try simp only [Act.put, List.setIfInBounds_toArray, List.set_cons_zero, List.set_cons_succ])
  refine' wpAnyH_take (i := 1) (oi := ?zoi1a) (v := ?zv1a) ?zhi1a (by kernel_rfl) (by kernel_rfl) (by kernel_rfl) ?zhQ1a (Or.inl ⟨?zhw1a, ?zhy1a⟩) (by assumption) ?zrest1a; (case zhi1a => simp only [List.getElem?_toArray, List.getElem?_cons_succ, List.getElem?_cons_zero]; exact rfl); (case zhQ1a => exact fun _ _ _ h => h); (case zhw1a => rfl); (case zhy1a => intro w hSw; (try dsimp only at hSw); go_simp; (try with_reducible rfl)); (try simp only [Act.put, List.setIfInBounds_toArray, List.set_cons_zero, List.set_cons_succ])
  refine' wpAnyH_take (i := 2) (oi := ?zoi2a) (v := ?zv2a) ?zhi2a (by kernel_rfl) (by kernel_rfl) (by kernel_rfl) ?zhQ2a (Or.inl ⟨?zhw2a, ?zhy2a⟩) (by assumption) ?zrest2a; (case zhi2a => simp only [List.getElem?_toArray, List.getElem?_cons_succ, List.getElem?_cons_zero]; exact rfl); (case zhQ2a => exact fun _ _ _ h => h); (case zhw2a => rfl); (case zhy2a => intro w hSw; (try dsimp only at hSw); go_simp; (try with_reducible rfl)); (try simp only [Act.put, List.setIfInBounds_toArray, List.set_cons_zero, List.set_cons_succ])
  refine' wpAnyH_take (i := 3) (oi := ?zoi3a) (v := ?zv3a) ?zhi3a (by kernel_rfl) (by kernel_rfl) (by kernel_rfl) ?zhQ3a (Or.inl ⟨?zhw3a, ?zhy3a⟩) (by assumption) ?zrest3a; (case zhi3a => simp only [List.getElem?_toArray, List.getElem?_cons_succ, List.getElem?_cons_zero]; exact rfl); (case zhQ3a => exact fun _ _ _ h => h); (case zhw3a => rfl); (case zhy3a => intro w hSw; (try dsimp only at hSw); go_simp; (try with_reducible rfl)); (try simp only [Act.put, List.setIfInBounds_toArray, List.set_cons_zero, List.set_cons_succ])
  refine' wpAnyH_take (i := 5) (oi := ?zoi5a) (v := ?zv5a) ?zhi5a (by kernel_rfl) (by kernel_rfl) (by kernel_rfl) ?zhQ5a (Or.inl ⟨?zhw5a, ?zhy5a⟩) (by assumption) ?zrest5a; (case zhi5a => simp only [List.getElem?_toArray, List.getElem?_cons_succ, List.getElem?_cons_zero]; exact rfl); (case zhQ5a => exact fun _ _ _ h => h); (case zhw5a => rfl); (case zhy5a => intro w hSw; (try dsimp only at hSw); go_simp; (try with_reducible rfl)); (try simp only [Act.put, List.setIfInBounds_toArray, List.set_cons_zero, List.set_cons_succ])
  refine' wpAnyH_take (i := 6) (oi := ?zoi6a) (v := ?zv6a) ?zhi6a (by kernel_rfl) (by kernel_rfl) (by kernel_rfl) ?zhQ6a (Or.inl ⟨?zhw6a, ?zhy6a⟩) (by assumption) ?zrest6a; (case zhi6a => simp only [List.getElem?_toArray, List.getElem?_cons_succ, List.getElem?_cons_zero]; exact rfl); (case zhQ6a => exact fun _ _ _ h => h); (case zhw6a => rfl); (case zhy6a => intro w hSw; (try dsimp only at hSw); go_simp; (try with_reducible rfl)); (try simp only [Act.put, List.setIfInBounds_toArray, List.set_cons_zero, List.set_cons_succ])
  refine' wpAnyH_take (i := 8) (oi := ?zoi8a) (v := ?zv8a) ?zhi8a (by kernel_rfl) (by kernel_rfl) (by kernel_rfl) ?zhQ8a (Or.inl ⟨?zhw8a, ?zhy8a⟩) (by assumption) ?zrest8a; (case zhi8a => simp only [List.getElem?_toArray, List.getElem?_cons_succ, List.getElem?_cons_zero]; exact rfl); (case zhQ8a => exact fun _ _ _ h => h); (case zhw8a => rfl); (case zhy8a => intro w hSw; (try dsimp only at hSw); go_simp; (try with_reducible rfl)); (try simp only [Act.put, List.setIfInBounds_toArray, List.set_cons_zero, List.set_cons_succ])
  refine' wpAnyH_take (i := 9) (oi := ?zoi9a) (v := ?zv9a) ?zhi9a (by kernel_rfl) (by kernel_rfl) (by kernel_rfl) ?zhQ9a (Or.inl ⟨?zhw9a, ?zhy9a⟩) (by assumption) ?zrest9a; (case zhi9a => simp only [List.getElem?_toArray, List.getElem?_cons_succ, List.getElem?_cons_zero]; exact rfl); (case zhQ9a => exact fun _ _ _ h => h); (case zhw9a => rfl); (case zhy9a => intro w hSw; (try dsimp only at hSw); go_simp; (try with_reducible rfl)); (try simp only [Act.put, List.setIfInBounds_toArray, List.set_cons_zero, List.set_cons_succ])
  refine' wpAnyH_take (i := 12) (oi := ?zoi12a) (v := ?zv12a) ?zhi12a (by kernel_rfl) (by kernel_rfl) (by kernel_rfl) ?zhQ12a (Or.inl ⟨?zhw12a, ?zhy12a⟩) (by assumption) ?zrest12a; (case zhi12a => simp only [List.getElem?_toArray, List.getElem?_cons_succ, List.getElem?_cons_zero]; exact rfl); (case zhQ12a => exact fun _ _ _ h => h); (case zhw12a => rfl); (case zhy12a => intro w hSw; (try dsimp only at hSw); go_simp; (try with_reducible rfl)); (try simp only [Act.put, List.setIfInBounds_toArray, List.set_cons_zero, List.set_cons_succ])
  refine' wpAnyH_take (i := 13) (oi := ?zoi13a) (v := ?zv13a) ?zhi13a (by kernel_rfl) (by kernel_rfl) (by kernel_rfl) ?zhQ13a (Or.inl ⟨?zhw13a, ?zhy13a⟩) (by assumption) ?zrest13a; (case zhi13a => simp only [List.getElem?_toArray, List.getElem?_cons_succ, List.getElem?_cons_zero]; exact rfl); (case zhQ13a => exact fun _ _ _ h => h); (case zhw13a => rfl); (case zhy13a => intro w hSw; (try dsimp only at hSw); go_simp; (try with_reducible rfl)); (try simp only [Act.put, List.setIfInBounds_toArray, List.set_cons_zero, List.set_cons_succ])
  refine' wpAnyH_take (i := 14) (oi := ?zoi14a) (v := ?zv14a) ?zhi14a (by kernel_rfl) (by kernel_rfl) (by kernel_rfl) ?zhQ14a (Or.inl ⟨?zhw14a, ?zhy14a⟩) (by assumption) ?zrest14a; (case zhi14a => simp only [List.getElem?_toArray, List.getElem?_cons_succ, List.getElem?_cons_zero]; exact rfl); (case zhQ14a => exact fun _ _ _ h => h); (case zhw14a => rfl); (case zhy14a => intro w hSw; (try dsimp only at hSw); go_simp; (try with_reducible rfl)); (try simp only [Act.put, List.setIfInBounds_toArray, List.set_cons_zero, List.set_cons_succ])
  refine' wpAnyH_take (i := 15) (oi := ?zoi15a) (v := ?zv15a) ?zhi15a (by kernel_rfl) (by kernel_rfl) (by kernel_rfl) ?zhQ15a (Or.inl ⟨?zhw15a, ?zhy15a⟩) (by assumption) ?zrest15a; (case zhi15a => simp only [List.getElem?_toArray, List.getElem?_cons_succ, List.getElem?_cons_zero]; exact rfl); (case zhQ15a => exact fun _ _ _ h => h); (case zhw15a => rfl); (case zhy15a => intro w hSw; (try dsimp only at hSw); go_simp; (try with_reducible rfl)); (try simp only [Act.put, List.setIfInBounds_toArray, List.set_cons_zero, List.set_cons_succ])
  refine wpAnyH_ready (rs := [4]) (by kernel_rfl) (by simp) ?_; refine AllReadyH.cons rfl (fun K hK => ?_) AllReadyH.nil; go_simp
  refine (cmpCompare_any _ _ _).mono ?_
  rintro e w' ⟨rfl, rfl⟩
  (try dsimp only)
  (try go_simp)
  refine hK.out _ _ (HKS.out _ (by (repeat' (with_reducible first | exact Below.refl _ _ | refine Ext.drewN ?_ _ | refine Below.drew ?_ | refine Below.setCell ?_ ?_ _ | refine Below.alloc ?_ ?_ _)) <;> (first | omega | (simp; done) | (simp; omega)))) (fun hHeld => ?_)
  clear hK K
  (try simp only [Act.put, List.setIfInBounds_toArray, List.set_cons_zero, List.set_cons_succ])
  refine wpAnyH_ready (rs := [7]) (by kernel_rfl) (by simp) ?_; refine AllReadyH.cons rfl (fun K hK => ?_) AllReadyH.nil; go_simp
  refine (ansOne_any a _).mono ?_
  rintro e w' ⟨rfl, rfl⟩
  (try dsimp only)
  (try go_simp)
  refine hK.out _ _ (HKS.out _ (by (repeat' (with_reducible first | exact Below.refl _ _ | refine Ext.drewN ?_ _ | refine Below.drew ?_ | refine Below.setCell ?_ ?_ _ | refine Below.alloc ?_ ?_ _)) <;> (first | omega | (simp; done) | (simp; omega)))) (fun hHeld => ?_)
  clear hK K
  (try simp only [Act.put, List.setIfInBounds_toArray, List.set_cons_zero, List.set_cons_succ])
  refine wpAnyH_ready (rs := [10]) (by kernel_rfl) (by simp) ?_; refine AllReadyH.cons rfl (fun K hK => ?_) AllReadyH.nil; go_simp
  refine (ansOne_any b _).mono ?_
  rintro e w' ⟨rfl, rfl⟩
  (try dsimp only)
  (try go_simp)
  refine hK.out _ _ (HKS.out _ (by (repeat' (with_reducible first | exact Below.refl _ _ | refine Ext.drewN ?_ _ | refine Below.drew ?_ | refine Below.setCell ?_ ?_ _ | refine Below.alloc ?_ ?_ _)) <;> (first | omega | (simp; done) | (simp; omega)))) (fun hHeld => ?_)
  clear hK K
  (try simp only [Act.put, List.setIfInBounds_toArray, List.set_cons_zero, List.set_cons_succ])
  refine wpAnyH_ready (rs := [11]) (by kernel_rfl) (by simp) ?_; refine AllReadyH.cons rfl (fun K hK => ?_) AllReadyH.nil; go_simp
  refine (cmpCompare_any _ _ _).mono ?_
  rintro e w' ⟨rfl, rfl⟩
  (try dsimp only)
  (try go_simp)
  refine hK.out _ _ (HKS.out _ (by (repeat' (with_reducible first | exact Below.refl _ _ | refine Ext.drewN ?_ _ | refine Below.drew ?_ | refine Below.setCell ?_ ?_ _ | refine Below.alloc ?_ ?_ _)) <;> (first | omega | (simp; done) | (simp; omega)))) (fun hHeld => ?_)
  clear hK K
  (try simp only [Act.put, List.setIfInBounds_toArray, List.set_cons_zero, List.set_cons_succ])
  refine wpAnyH_ready (rs := [16]) (by kernel_rfl) (by simp) ?_; refine AllReadyH.cons rfl (fun K hK => ?_) AllReadyH.nil; go_simp
  refine (cmpCompare_any _ _ _).mono ?_
  rintro e w' ⟨rfl, rfl⟩
  (try dsimp only)
  (try go_simp)
  refine hK.out _ _ (HKS.out _ (by (repeat' (with_reducible first | exact Below.refl _ _ | refine Ext.drewN ?_ _ | refine Below.drew ?_ | refine Below.setCell ?_ ?_ _ | refine Below.alloc ?_ ?_ _)) <;> (first | omega | (simp; done) | (simp; omega)))) (fun hHeld => ?_)
  clear hK K
  (try simp only [Act.put, List.setIfInBounds_toArray, List.set_cons_zero, List.set_cons_succ])
  refine wpAnyH_ready (rs := [17]) (by kernel_rfl) (by simp) ?_; refine AllReadyH.cons rfl (fun K hK => ?_) AllReadyH.nil; go_simp
  refine hK.out _ _ (HKS.out _ (by (repeat' (with_reducible first | exact Below.refl _ _ | refine Ext.drewN ?_ _ | refine Below.drew ?_ | refine Below.setCell ?_ ?_ _ | refine Below.alloc ?_ ?_ _)) <;> (first | omega | (simp; done) | (simp; omega)))) (fun hHeld => ?_)
  clear hK K
  (try simp only [Act.put, List.setIfInBounds_toArray, List.set_cons_zero, List.set_cons_succ])
  refine wpAnyH_ready (rs := [18]) (by kernel_rfl) (by simp) ?_; refine AllReadyH.cons rfl (fun K hK => ?_) AllReadyH.nil; go_simp
  refine (cmpOr3_any _ 3 (cmpI a.time b.time) (cmpI (ansI a) (ansI b)) (cmpI a.id b.id) _ (by go_simp) (by go_simp) (by go_simp)).mono ?_
  rintro e w' ⟨rfl, rfl⟩
  (try dsimp only)
  (try go_simp)
  refine hK.out _ _ (HKS.out _ (by (repeat' (with_reducible first | exact Below.refl _ _ | refine Ext.drewN ?_ _ | refine Below.drew ?_ | refine Below.setCell ?_ ?_ _ | refine Below.alloc ?_ ?_ _)) <;> (first | omega | (simp; done) | (simp; omega)))) (fun hHeld => ?_)
  clear hK K
  (try simp only [Act.put, List.setIfInBounds_toArray, List.set_cons_zero, List.set_cons_succ])
  refine' wpAnyH_take (i := 19) (oi := ?zoi19a) (v := ?zv19a) ?zhi19a (by kernel_rfl) (by kernel_rfl) (by kernel_rfl) ?zhQ19a (Or.inl ⟨?zhw19a, ?zhy19a⟩) (by assumption) ?zrest19a; (case zhi19a => simp only [List.getElem?_toArray, List.getElem?_cons_succ, List.getElem?_cons_zero]; exact rfl); (case zhQ19a => exact fun _ _ _ h => h); (case zhw19a => rfl); (case zhy19a => intro w hSw; (try dsimp only at hSw); go_simp; (try with_reducible rfl)); (try simp only [Act.put, List.setIfInBounds_toArray, List.set_cons_zero, List.set_cons_succ])
  refine wpAnyH_done (by kernel_rfl) ?_ _
  go_wp2_with fail
  go_ret
  refine ⟨by rw [HV.out]; rfl, ?_⟩
  repeat' (with_reducible first | exact Grew.refl _ | refine Grew.drew ?_ | refine Grew.drewN ?_ _ | refine Grew.alloc ?_ _)
end Go.Proofs.YtgpnockjonicpaaDoor

