/- law26.EventParses, law26.EventJoins, given that law26.awake answers yes. -/
/- slices.SortStableFunc of two events that are in order: nothing moves. -/
/- event.Of, of one operation that has its answer. -/
import Derived.Test.YtgpnockjonicpaaDoorLw1
import Derived.Test.YtgpnockjonicpaaDoorOps2
import Derived.Test.YtgpnockjonicpaaDoorJoin7
import Derived.Test.YtgpnockjonicpaaDoorStep2
namespace Go.Proofs.YtgpnockjonicpaaDoor
set_option linter.unusedSimpArgs false
set_option linter.unusedVariables false
open Go.RowKit

/-- law26.awake answers yes -/
def Awake26 : Prop := ∀ (m : Int) (w : World), w.cell? ⟨0, 0, none⟩ = some (.int .i64 m) → Calls Tryd.prog 6 #[] w fun e w' => e = .returned (.bool true) ∧ Ext w w'
end Go.Proofs.YtgpnockjonicpaaDoor
namespace Go.Proofs.YtgpnockjonicpaaDoor
set_option linter.unusedSimpArgs false
set_option linter.unusedVariables false
open Go.RowKit

set_option maxRecDepth 100000 in
set_option maxHeartbeats 4000000 in
theorem ins2_any (b off c : Nat) (x y : EvD) (w : World) (hx : w.cell? ⟨b, off, none⟩ = some (.int .i64 x.time) ∧ w.cell? ⟨b, off + 1, none⟩ = some (.int .i64 x.proc) ∧ w.cell? ⟨b, off + 2, none⟩ = some (.bool x.answer) ∧ w.cell? ⟨b, off + 3, none⟩ = some (.int .i64 x.id) ∧ w.cell? ⟨b, off + 4, none⟩ = some (.int .i64 x.object) ∧ w.cell? ⟨b, off + 5, none⟩ = some (.int .i64 x.kind) ∧ w.cell? ⟨b, off + 6, none⟩ = some (.int .i64 x.method) ∧ w.cell? ⟨b, off + 7, none⟩ = some (.int .i64 x.arg) ∧ w.cell? ⟨b, off + 8, none⟩ = some (.int .i64 x.second) ∧ w.cell? ⟨b, off + 9, none⟩ = some (.int .i64 x.result)) (hy : w.cell? ⟨b, off + 10, none⟩ = some (.int .i64 y.time) ∧ w.cell? ⟨b, off + 10 + 1, none⟩ = some (.int .i64 y.proc) ∧ w.cell? ⟨b, off + 10 + 2, none⟩ = some (.bool y.answer) ∧ w.cell? ⟨b, off + 10 + 3, none⟩ = some (.int .i64 y.id) ∧ w.cell? ⟨b, off + 10 + 4, none⟩ = some (.int .i64 y.object) ∧ w.cell? ⟨b, off + 10 + 5, none⟩ = some (.int .i64 y.kind) ∧ w.cell? ⟨b, off + 10 + 6, none⟩ = some (.int .i64 y.method) ∧ w.cell? ⟨b, off + 10 + 7, none⟩ = some (.int .i64 y.arg) ∧ w.cell? ⟨b, off + 10 + 8, none⟩ = some (.int .i64 y.second) ∧ w.cell? ⟨b, off + 10 + 9, none⟩ = some (.int .i64 y.result)) (hb : b < w.heap.size) (hxy : ¬ evCmp y x < 0) :
    Calls Tryd.prog 54 #[.slice (some ⟨b, off, none⟩) 2 c, .int .i64 0, .int .i64 2, .func (.func 17) #[] #[]] w fun e w' => e = .returned (.tuple #[]) ∧ Ext w w' := by
  have HX := Lib.hid hx
  have HY := Lib.hid hy
  have HS : Hid (∀ W, Ext w W → ((W.cell? ⟨b, off, none⟩ = some (.int .i64 x.time) ∧ W.cell? ⟨b, off + 1, none⟩ = some (.int .i64 x.proc) ∧ W.cell? ⟨b, off + 2, none⟩ = some (.bool x.answer) ∧ W.cell? ⟨b, off + 3, none⟩ = some (.int .i64 x.id) ∧ W.cell? ⟨b, off + 4, none⟩ = some (.int .i64 x.object) ∧ W.cell? ⟨b, off + 5, none⟩ = some (.int .i64 x.kind) ∧ W.cell? ⟨b, off + 6, none⟩ = some (.int .i64 x.method) ∧ W.cell? ⟨b, off + 7, none⟩ = some (.int .i64 x.arg) ∧ W.cell? ⟨b, off + 8, none⟩ = some (.int .i64 x.second) ∧ W.cell? ⟨b, off + 9, none⟩ = some (.int .i64 x.result)) ∧ (W.cell? ⟨b, off + 10, none⟩ = some (.int .i64 y.time) ∧ W.cell? ⟨b, off + 10 + 1, none⟩ = some (.int .i64 y.proc) ∧ W.cell? ⟨b, off + 10 + 2, none⟩ = some (.bool y.answer) ∧ W.cell? ⟨b, off + 10 + 3, none⟩ = some (.int .i64 y.id) ∧ W.cell? ⟨b, off + 10 + 4, none⟩ = some (.int .i64 y.object) ∧ W.cell? ⟨b, off + 10 + 5, none⟩ = some (.int .i64 y.kind) ∧ W.cell? ⟨b, off + 10 + 6, none⟩ = some (.int .i64 y.method) ∧ W.cell? ⟨b, off + 10 + 7, none⟩ = some (.int .i64 y.arg) ∧ W.cell? ⟨b, off + 10 + 8, none⟩ = some (.int .i64 y.second) ∧ W.cell? ⟨b, off + 10 + 9, none⟩ = some (.int .i64 y.result))) ∧ b < W.heap.size) := fun W h => by
    have hz := h.size
    obtain ⟨x0, x1, x2, x3, x4, x5, x6, x7, x8, x9⟩ := HX.out
    obtain ⟨y0, y1, y2, y3, y4, y5, y6, y7, y8, y9⟩ := HY.out
    have c := fun i => h.cell (p := ⟨b, i, none⟩) hb
    exact ⟨⟨⟨(c _).trans x0, (c _).trans x1, (c _).trans x2, (c _).trans x3, (c _).trans x4, (c _).trans x5, (c _).trans x6, (c _).trans x7, (c _).trans x8, (c _).trans x9⟩, ⟨(c _).trans y0, (c _).trans y1, (c _).trans y2, (c _).trans y3, (c _).trans y4, (c _).trans y5, (c _).trans y6, (c _).trans y7, (c _).trans y8, (c _).trans y9⟩⟩, by omega⟩
  have q1 : decide (evCmp y x < 0) = false := decide_eq_false hxy
  clear hx hy
  go_enter Tryd.func54, Tryd.ntmps54
  go_wp2_with fail
  go_loopw [8] (fun i wr => ∃ k : Nat, (k = 1 ∨ k = 2) ∧ i = .int .i64 k ∧ Ext w wr) (fun i _ => 2 - (intOf i).toNat)
  case atStart => exact ⟨1, .inl rfl, rfl, Ext.refl _⟩
  case round =>
    obtain ⟨k, hk, rfl, hbk⟩ := hrel
    have HB := Lib.hid hbk
    clear hbk
    rcases hk with rfl | rfl
    · go_wp2_with fail
      go_loopw [9] (fun i wx => i = .int .i64 1 ∧ Ext w wx) (fun i _ => 0)
      case atStart => exact ⟨rfl, HB.out⟩
      case round =>
        obtain ⟨rfl, hbx⟩ := hrel
        have HC := Lib.hid hbx
        clear hbx
        have hw0 : IntKind.i64.wrap 0 = 0 := by decide
        go_upto_region 4 with fail
        refine wp_region_held_drew (S := fun W => ((W.cell? ⟨b, off, none⟩ = some (.int .i64 x.time) ∧ W.cell? ⟨b, off + 1, none⟩ = some (.int .i64 x.proc) ∧ W.cell? ⟨b, off + 2, none⟩ = some (.bool x.answer) ∧ W.cell? ⟨b, off + 3, none⟩ = some (.int .i64 x.id) ∧ W.cell? ⟨b, off + 4, none⟩ = some (.int .i64 x.object) ∧ W.cell? ⟨b, off + 5, none⟩ = some (.int .i64 x.kind) ∧ W.cell? ⟨b, off + 6, none⟩ = some (.int .i64 x.method) ∧ W.cell? ⟨b, off + 7, none⟩ = some (.int .i64 x.arg) ∧ W.cell? ⟨b, off + 8, none⟩ = some (.int .i64 x.second) ∧ W.cell? ⟨b, off + 9, none⟩ = some (.int .i64 x.result)) ∧ (W.cell? ⟨b, off + 10, none⟩ = some (.int .i64 y.time) ∧ W.cell? ⟨b, off + 10 + 1, none⟩ = some (.int .i64 y.proc) ∧ W.cell? ⟨b, off + 10 + 2, none⟩ = some (.bool y.answer) ∧ W.cell? ⟨b, off + 10 + 3, none⟩ = some (.int .i64 y.id) ∧ W.cell? ⟨b, off + 10 + 4, none⟩ = some (.int .i64 y.object) ∧ W.cell? ⟨b, off + 10 + 5, none⟩ = some (.int .i64 y.kind) ∧ W.cell? ⟨b, off + 10 + 6, none⟩ = some (.int .i64 y.method) ∧ W.cell? ⟨b, off + 10 + 7, none⟩ = some (.int .i64 y.arg) ∧ W.cell? ⟨b, off + 10 + 8, none⟩ = some (.int .i64 y.second) ∧ W.cell? ⟨b, off + 10 + 9, none⟩ = some (.int .i64 y.result))) ∧ b < W.heap.size) (by kernel_rfl) (HS.out _ (by (repeat' (with_reducible first | exact HC.out | exact Below.refl _ _ | refine Ext.drewN ?_ _ | refine Below.drew ?_ | refine Below.setCell ?_ ?_ _ | refine Below.alloc ?_ ?_ _)) <;> (first | omega | (simp; done) | (simp; omega)))) (fun hHeld => ?_)
        refine' wpAnyH_take (i := 0) (oi := ?zoi0a) (v := ?zv0a) ?zhi0a (by kernel_rfl) (by kernel_rfl) (by kernel_rfl) ?zhQ0a (Or.inl ⟨?zhw0a, ?zhy0a⟩) (by assumption) ?zrest0a; (case zhi0a => simp only [List.getElem?_toArray, List.getElem?_cons_succ, List.getElem?_cons_zero]; exact rfl); (case zhQ0a => exact fun _ _ _ h => h); (case zhw0a => rfl); (case zhy0a => intro w hSw; (try dsimp only at hSw); go_simp; (try with_reducible rfl)); (try simp only [Act.put, List.setIfInBounds_toArray, List.set_cons_zero, List.set_cons_succ])
        refine' wpAnyH_take (i := 1) (oi := ?zoi1a) (v := ?zv1a) ?zhi1a (by kernel_rfl) (by kernel_rfl) (by kernel_rfl) ?zhQ1a (Or.inl ⟨?zhw1a, ?zhy1a⟩) (by assumption) ?zrest1a; (case zhi1a => simp only [List.getElem?_toArray, List.getElem?_cons_succ, List.getElem?_cons_zero]; exact rfl); (case zhQ1a => exact fun _ _ _ h => h); (case zhw1a => rfl); (case zhy1a => intro w hSw; (try dsimp only at hSw); go_simp; (try with_reducible rfl)); (try simp only [Act.put, List.setIfInBounds_toArray, List.set_cons_zero, List.set_cons_succ])
        refine' wpAnyH_take (i := 2) (oi := ?zoi2a) (v := ?zv2a) ?zhi2a (by kernel_rfl) (by kernel_rfl) (by kernel_rfl) ?zhQ2a (Or.inl ⟨?zhw2a, ?zhy2a⟩) (by assumption) ?zrest2a; (case zhi2a => simp only [List.getElem?_toArray, List.getElem?_cons_succ, List.getElem?_cons_zero]; exact rfl); (case zhQ2a => exact fun _ _ _ h => h); (case zhw2a => rfl); (case zhy2a => intro w hSw; (try dsimp only at hSw); go_simp; (try with_reducible rfl)); (try simp only [Act.put, List.setIfInBounds_toArray, List.set_cons_zero, List.set_cons_succ])
        refine' wpAnyH_take (i := 3) (oi := ?zoi3a) (v := ?zv3a) ?zhi3a (by kernel_rfl) (by kernel_rfl) (by kernel_rfl) ?zhQ3a (Or.inl ⟨?zhw3a, ?zhy3a⟩) (by assumption) ?zrest3a; (case zhi3a => simp only [List.getElem?_toArray, List.getElem?_cons_succ, List.getElem?_cons_zero]; exact rfl); (case zhQ3a => exact fun _ _ _ h => h); (case zhw3a => rfl); (case zhy3a => intro w hSw; (try dsimp only at hSw); go_simp; (try with_reducible rfl)); (try simp only [Act.put, List.setIfInBounds_toArray, List.set_cons_zero, List.set_cons_succ])
        refine' wpAnyH_take (i := 4) (oi := ?zoi4a) (v := ?zv4a) ?zhi4a (by kernel_rfl) (by kernel_rfl) (by kernel_rfl) ?zhQ4a (Or.inl ⟨?zhw4a, ?zhy4a⟩) (by assumption) ?zrest4a; (case zhi4a => simp only [List.getElem?_toArray, List.getElem?_cons_succ, List.getElem?_cons_zero]; exact rfl); (case zhQ4a => exact fun _ _ _ h => h); (case zhw4a => rfl); (case zhy4a => intro w hSw; (try dsimp only at hSw); go_simp; (try with_reducible rfl)); (try simp only [Act.put, List.setIfInBounds_toArray, List.set_cons_zero, List.set_cons_succ])
        refine' wpAnyH_take (i := 5) (oi := ?zoi5a) (v := ?zv5a) ?zhi5a (by kernel_rfl) (by kernel_rfl) (by kernel_rfl) ?zhQ5a (Or.inl ⟨?zhw5a, ?zhy5a⟩) (by assumption) ?zrest5a; (case zhi5a => simp only [List.getElem?_toArray, List.getElem?_cons_succ, List.getElem?_cons_zero]; exact rfl); (case zhQ5a => exact fun _ _ _ h => h); (case zhw5a => rfl); (case zhy5a => intro w hSw; (try dsimp only at hSw); go_simp; (try with_reducible rfl)); (try simp only [Act.put, List.setIfInBounds_toArray, List.set_cons_zero, List.set_cons_succ])
        refine' wpAnyH_take (i := 6) (oi := ?zoi6a) (v := ?zv6a) ?zhi6a (by kernel_rfl) (by kernel_rfl) (by kernel_rfl) ?zhQ6a (Or.inl ⟨?zhw6a, ?zhy6a⟩) (by assumption) ?zrest6a; (case zhi6a => simp only [List.getElem?_toArray, List.getElem?_cons_succ, List.getElem?_cons_zero]; exact rfl); (case zhQ6a => exact fun _ _ _ h => h); (case zhw6a => rfl); (case zhy6a => intro w hSw; (try dsimp only at hSw); go_simp; (try with_reducible rfl)); (try simp only [Act.put, List.setIfInBounds_toArray, List.set_cons_zero, List.set_cons_succ])
        refine' wpAnyH_take (i := 7) (oi := ?zoi7a) (v := ?zv7a) ?zhi7a (by kernel_rfl) (by kernel_rfl) (by kernel_rfl) ?zhQ7a (Or.inl ⟨?zhw7a, ?zhy7a⟩) (by assumption) ?zrest7a; (case zhi7a => simp only [List.getElem?_toArray, List.getElem?_cons_succ, List.getElem?_cons_zero]; exact rfl); (case zhQ7a => exact fun _ _ _ h => h); (case zhw7a => rfl); (case zhy7a => intro w hSw; (try dsimp only at hSw); go_simp; (try with_reducible rfl)); (try simp only [Act.put, List.setIfInBounds_toArray, List.set_cons_zero, List.set_cons_succ])
        refine' wpAnyH_take (i := 8) (oi := ?zoi8a) (v := ?zv8a) ?zhi8a (by kernel_rfl) (by kernel_rfl) (by kernel_rfl) ?zhQ8a (Or.inl ⟨?zhw8a, ?zhy8a⟩) (by assumption) ?zrest8a; (case zhi8a => simp only [List.getElem?_toArray, List.getElem?_cons_succ, List.getElem?_cons_zero]; exact rfl); (case zhQ8a => exact fun _ _ _ h => h); (case zhw8a => rfl); (case zhy8a => intro w hSw; (try dsimp only at hSw); go_simp; (try with_reducible rfl)); (try simp only [Act.put, List.setIfInBounds_toArray, List.set_cons_zero, List.set_cons_succ])
        refine' wpAnyH_take (i := 9) (oi := ?zoi9a) (v := ?zv9a) ?zhi9a (by kernel_rfl) (by kernel_rfl) (by kernel_rfl) ?zhQ9a (Or.inl ⟨?zhw9a, ?zhy9a⟩) (by assumption) ?zrest9a; (case zhi9a => simp only [List.getElem?_toArray, List.getElem?_cons_succ, List.getElem?_cons_zero]; exact rfl); (case zhQ9a => exact fun _ _ _ h => h); (case zhw9a => rfl); (case zhy9a => intro w hSw; (try dsimp only at hSw); go_simp; (try with_reducible rfl)); (try simp only [Act.put, List.setIfInBounds_toArray, List.set_cons_zero, List.set_cons_succ])
        refine' wpAnyH_take (i := 10) (oi := ?zoi10a) (v := ?zv10a) ?zhi10a (by kernel_rfl) (by kernel_rfl) (by kernel_rfl) ?zhQ10a (Or.inl ⟨?zhw10a, ?zhy10a⟩) (by assumption) ?zrest10a; (case zhi10a => simp only [List.getElem?_toArray, List.getElem?_cons_succ, List.getElem?_cons_zero]; exact rfl); (case zhQ10a => exact fun _ _ _ h => h); (case zhw10a => rfl); (case zhy10a => intro w hSw; (try dsimp only at hSw); go_simp; (try with_reducible rfl)); (try simp only [Act.put, List.setIfInBounds_toArray, List.set_cons_zero, List.set_cons_succ])
        refine' wpAnyH_take (i := 11) (oi := ?zoi11a) (v := ?zv11a) ?zhi11a (by kernel_rfl) (by kernel_rfl) (by kernel_rfl) ?zhQ11a (Or.inl ⟨?zhw11a, ?zhy11a⟩) (by assumption) ?zrest11a; (case zhi11a => simp only [List.getElem?_toArray, List.getElem?_cons_succ, List.getElem?_cons_zero]; exact rfl); (case zhQ11a => exact fun _ _ _ h => h); (case zhw11a => rfl); (case zhy11a => intro w hSw; (try dsimp only at hSw); go_simp; (try with_reducible rfl)); (try simp only [Act.put, List.setIfInBounds_toArray, List.set_cons_zero, List.set_cons_succ])
        refine' wpAnyH_take (i := 12) (oi := ?zoi12a) (v := ?zv12a) ?zhi12a (by kernel_rfl) (by kernel_rfl) (by kernel_rfl) ?zhQ12a (Or.inl ⟨?zhw12a, ?zhy12a⟩) (by assumption) ?zrest12a; (case zhi12a => simp only [List.getElem?_toArray, List.getElem?_cons_succ, List.getElem?_cons_zero]; exact rfl); (case zhQ12a => exact fun _ _ _ h => h); (case zhw12a => rfl); (case zhy12a => intro w hSw; (try dsimp only at hSw); go_simp; (try with_reducible rfl)); (try simp only [Act.put, List.setIfInBounds_toArray, List.set_cons_zero, List.set_cons_succ])
        refine' wpAnyH_take (i := 13) (oi := ?zoi13a) (v := ?zv13a) ?zhi13a (by kernel_rfl) (by kernel_rfl) (by kernel_rfl) ?zhQ13a (Or.inl ⟨?zhw13a, ?zhy13a⟩) (by assumption) ?zrest13a; (case zhi13a => simp only [List.getElem?_toArray, List.getElem?_cons_succ, List.getElem?_cons_zero]; exact rfl); (case zhQ13a => exact fun _ _ _ h => h); (case zhw13a => rfl); (case zhy13a => intro w hSw; (try dsimp only at hSw); go_simp; (try with_reducible rfl)); (try simp only [Act.put, List.setIfInBounds_toArray, List.set_cons_zero, List.set_cons_succ])
        refine wpAnyH_ready (rs := [14]) (by kernel_rfl) (by simp) ?_; refine AllReadyH.cons rfl (fun K hK => ?_) AllReadyH.nil; go_simp
        (with_reducible refine (evOrder_any y x _).mono ?_)
        rintro e w4 ⟨rfl, hg4⟩
        have HC : Hid (Ext w w4) := Ext.trans (by (repeat' (with_reducible first | exact HC.out | exact Below.refl _ _ | refine Ext.drewN ?_ _ | refine Below.drew ?_ | refine Below.setCell ?_ ?_ _ | refine Below.alloc ?_ ?_ _)) <;> (first | omega | (simp; done) | (simp; omega))) hg4.ext
        clear hg4
        (try dsimp only)
        (try go_simp)
        refine hK.out _ _ (HS.out _ HC.out) (fun hHeld => ?_)
        clear hK K
        (try simp only [Act.put, List.setIfInBounds_toArray, List.set_cons_zero, List.set_cons_succ])
        refine' wpAnyH_take (i := 15) (oi := ?zoi15a) (v := ?zv15a) ?zhi15a (by kernel_rfl) (by kernel_rfl) (by kernel_rfl) ?zhQ15a (Or.inl ⟨?zhw15a, ?zhy15a⟩) (by assumption) ?zrest15a; (case zhi15a => simp only [List.getElem?_toArray, List.getElem?_cons_succ, List.getElem?_cons_zero]; exact rfl); (case zhQ15a => exact fun _ _ _ h => h); (case zhw15a => rfl); (case zhy15a => intro w hSw; (try dsimp only at hSw); go_simp; (try with_reducible rfl)); (try simp only [Act.put, List.setIfInBounds_toArray, List.set_cons_zero, List.set_cons_succ])
        refine' wpAnyH_take (i := 16) (oi := ?zoi16a) (v := ?zv16a) ?zhi16a (by kernel_rfl) (by kernel_rfl) (by kernel_rfl) ?zhQ16a (Or.inl ⟨?zhw16a, ?zhy16a⟩) (by assumption) ?zrest16a; (case zhi16a => simp only [List.getElem?_toArray, List.getElem?_cons_succ, List.getElem?_cons_zero]; exact rfl); (case zhQ16a => exact fun _ _ _ h => h); (case zhw16a => rfl); (case zhy16a => intro w hSw; (try dsimp only at hSw); go_simp; (try with_reducible rfl)); (try simp only [Act.put, List.setIfInBounds_toArray, List.set_cons_zero, List.set_cons_succ])
        refine wpAnyH_done (by kernel_rfl) ?_ _
        go_wp2_with fail
        go_roundw
        case measure => simp [intOf]
        case rel => exact ⟨2, .inr rfl, by go_num, by (repeat' (with_reducible first | exact HC.out | exact Below.refl _ _ | refine Ext.drewN ?_ _ | refine Below.drew ?_ | refine Below.setCell ?_ ?_ _ | refine Below.alloc ?_ ?_ _)) <;> (first | omega | (simp; done) | (simp; omega))⟩
    · go_wp2_with fail
      go_end0
      exact ⟨rfl, HB.out⟩
set_option maxRecDepth 100000 in
set_option maxHeartbeats 4000000 in
theorem stable2_any (b off c : Nat) (x y : EvD) (w : World) (hx : w.cell? ⟨b, off, none⟩ = some (.int .i64 x.time) ∧ w.cell? ⟨b, off + 1, none⟩ = some (.int .i64 x.proc) ∧ w.cell? ⟨b, off + 2, none⟩ = some (.bool x.answer) ∧ w.cell? ⟨b, off + 3, none⟩ = some (.int .i64 x.id) ∧ w.cell? ⟨b, off + 4, none⟩ = some (.int .i64 x.object) ∧ w.cell? ⟨b, off + 5, none⟩ = some (.int .i64 x.kind) ∧ w.cell? ⟨b, off + 6, none⟩ = some (.int .i64 x.method) ∧ w.cell? ⟨b, off + 7, none⟩ = some (.int .i64 x.arg) ∧ w.cell? ⟨b, off + 8, none⟩ = some (.int .i64 x.second) ∧ w.cell? ⟨b, off + 9, none⟩ = some (.int .i64 x.result)) (hy : w.cell? ⟨b, off + 10, none⟩ = some (.int .i64 y.time) ∧ w.cell? ⟨b, off + 10 + 1, none⟩ = some (.int .i64 y.proc) ∧ w.cell? ⟨b, off + 10 + 2, none⟩ = some (.bool y.answer) ∧ w.cell? ⟨b, off + 10 + 3, none⟩ = some (.int .i64 y.id) ∧ w.cell? ⟨b, off + 10 + 4, none⟩ = some (.int .i64 y.object) ∧ w.cell? ⟨b, off + 10 + 5, none⟩ = some (.int .i64 y.kind) ∧ w.cell? ⟨b, off + 10 + 6, none⟩ = some (.int .i64 y.method) ∧ w.cell? ⟨b, off + 10 + 7, none⟩ = some (.int .i64 y.arg) ∧ w.cell? ⟨b, off + 10 + 8, none⟩ = some (.int .i64 y.second) ∧ w.cell? ⟨b, off + 10 + 9, none⟩ = some (.int .i64 y.result)) (hb : b < w.heap.size) (hxy : ¬ evCmp y x < 0) :
    Calls Tryd.prog 16 #[.slice (some ⟨b, off, none⟩) 2 c, .func (.func 17) #[] #[]] w fun e w' => e = .returned (.tuple #[]) ∧ Ext w w' := by
  have HI := Lib.hid (ins2_any b off c x y w hx hy hb hxy)
  clear hx hy hxy
  have hcmp : Calls Tryd.prog 31 #[.slice (some ⟨b, off, none⟩) 2 c, .int .i64 2, .func (.func 17) #[] #[]] w fun e w' => e = .returned (.tuple #[]) ∧ Ext w w' := by
    go_enter Tryd.func31, Tryd.ntmps31
    go_wp2_with fail
    go_loopw [7, 8] (fun i j wr => i = .int .i64 0 ∧ j = .int .i64 20 ∧ w = wr) (fun _ _ _ => 0)
    case atStart => exact ⟨rfl, rfl, rfl⟩
    case round =>
      obtain ⟨rfl, rfl, rfl⟩ := hrel
      go_wp2_with fail
      refine HI.out.mono ?_
      rintro e w1 ⟨rfl, hb1⟩
      go_wp2_with fail
      go_loopw [6, 7, 8, 9] (fun i _ _ _ wr => i = .int .i64 20 ∧ Ext w wr) (fun _ _ _ _ _ => 0)
      case atStart => exact ⟨rfl, hb1⟩
      case round =>
        obtain ⟨rfl, hb2⟩ := hrel
        go_wp2_with fail
        go_end0
        exact ⟨rfl, hb2⟩
  go_enter Tryd.func16, Tryd.ntmps16
  go_wp2_with fail
  refine hcmp.mono ?_
  rintro e w1 ⟨rfl, hb1⟩
  go_wp2_with fail
  go_end0
  exact ⟨rfl, hb1⟩
end Go.Proofs.YtgpnockjonicpaaDoor
namespace Go.Proofs.YtgpnockjonicpaaDoor
set_option linter.unusedSimpArgs false
set_option linter.unusedVariables false
open Go.RowKit

def invOf (o : OpD) : EvD := ⟨o.invoke, o.proc, false, o.id, o.object, o.kind, o.method, o.arg, o.second, 0⟩
def ansOf (o : OpD) : EvD := ⟨o.ret, o.proc, true, o.id, 0, 0, 0, 0, 0, o.result⟩
set_option maxRecDepth 100000 in
set_option maxHeartbeats 4000000 in
theorem of1_any (V : Value) (o : OpD) (w : World) (hs : Sl w 11 ROp V [o]) (hd : o.done = true) (hlt : o.invoke < o.ret) :
    Calls Tryd.prog 8 #[V] w fun e w' => (∃ v, e = .returned v ∧ OwnL w' w.heap.size 42 10 EvD.cells v [invOf o, ansOf o]) ∧ Ext w w' := by
  obtain ⟨A, c, rfl⟩ := hs.form
  obtain ⟨_, hc1, hc2, hA⟩ := hs.at
  clear hA
  obtain ⟨b, off, rfl, hbl, hcell⟩ := hs.ops_at (by simp)
  have HE := Lib.hid (hcell 0 (by simp))
  have hxy : ¬ evCmp (ansOf o) (invOf o) < 0 := by
    have e : cmpI (ansOf o).time (invOf o).time = 1 := by
      unfold cmpI ansOf invOf
      simp only []
      rw [if_neg (by omega), if_pos (by omega)]
    unfold evCmp orI3
    rw [e, if_neg (by decide)]
    decide
  have HXY := Lib.hid hxy
  clear hcell hs hxy
  simp only [List.length_cons, List.length_nil, Nat.zero_add] at hc1 ⊢
  go_enter Tryd.func8, Tryd.ntmps8
  go_wp2_with fail
  go_loopw [3, 8] (fun v i wr => ∃ (k : Nat) (acc : List EvD), ((k = 0 ∧ Hid (acc = [])) ∨ (k = 1 ∧ Hid (acc = [invOf o, ansOf o]))) ∧ OwnL wr w.heap.size 42 10 EvD.cells v acc ∧ i = .int .i64 k ∧ Ext w wr) (fun _ i _ => 1 - (intOf i).toNat)
  case atStart => exact ⟨0, [], .inl ⟨rfl, rfl⟩, OwnL.nil _ _ _ _ _, rfl, Ext.refl _⟩
  case round =>
    obtain ⟨k, acc, hk, hown, rfl, hb⟩ := hrel
    have HB := Lib.hid hb
    have hzb := hb.size
    have HOW := Lib.hid hown
    obtain ⟨vA, vc, rfl⟩ := hown.form
    have hal : acc.length ≤ 2 := by
      rcases hk with ⟨_, h⟩ | ⟨_, h⟩ <;> (rw [h.out]; simp)
    clear hown hb
    rcases hk with ⟨rfl, hacc⟩ | ⟨rfl, hacc⟩
    · obtain ⟨e0, e1, e2, e3, e4, e5, e6, e7, e8, e9, e10⟩ := HE.out wr HB.out
      simp only [List.getElem_cons_zero, Nat.zero_mul, Nat.add_zero] at e0 e1 e2 e3 e4 e5 e6 e7 e8 e9 e10
      rw [hd] at e7
      have hbw : b < wr.heap.size := by omega
      go_wp2_with (at_builtin; refine wpList_push elEv ev_len ev_one rfl (.tmp 12) (.tmp 30) rfl _ acc rfl (HOW.out.ext (by (repeat' (with_reducible first | exact Below.refl _ _ | refine Ext.drewN ?_ _ | refine Below.drew ?_ | refine Below.setCell ?_ ?_ _ | refine Below.alloc ?_ ?_ _)) <;> (first | omega | (simp; done) | (simp; omega)))) (by simp; omega) _ 1 (invOf o) rfl (Row1.made' (by simp) _ (invOf o).cells) (by simp; omega) (by decide) ?_)
      intro pA pc wp hp hgp
      have hrow : Row1 wp wr.heap.size 40 [.int .i64 o.id, .int .i64 o.proc, .int .i64 o.object, .int .i64 o.kind, .int .i64 o.method, .int .i64 o.arg, .int .i64 o.second, .bool true, .int .i64 o.result, .int .i64 o.invoke, .int .i64 o.ret] := Row1.grown ((Row1.made wr 40 [.int .i64 o.id, .int .i64 o.proc, .int .i64 o.object, .int .i64 o.kind, .int .i64 o.method, .int .i64 o.arg, .int .i64 o.second, .bool true, .int .i64 o.result, .int .i64 o.invoke, .int .i64 o.ret]).ext (Ext.alloc _ _) (by simp)) hgp (fun q => by have := (HOW.out.lt _ q.symm).2; omega)
      have HX2 : Hid (Ext w wp) := (by (repeat' (with_reducible first | exact HB.out | exact Below.refl _ _ | refine Ext.drewN ?_ _ | refine Below.drew ?_ | refine Below.setCell ?_ ?_ _ | refine Below.alloc ?_ ?_ _)) <;> (first | omega | (simp; done) | (simp; omega)) : Ext w _).grown hgp (by have := HB.out.size; first | omega | (simp; omega)) (fun j hj => (HOW.out.lt j hj).1)
      have HP := Lib.hid hp
      have hx0 := hrow.cell 0
      have hx1 := hrow.cell 1
      have hx7 := hrow.cell 7
      have hx8 := hrow.cell 8
      have hx10 := hrow.cell 10
      simp only [List.getElem?_cons_zero, List.getElem?_cons_succ] at hx0 hx1 hx7 hx8 hx10
      have hrl := hrow.lt
      have hz2 := HX2.out.size
      clear hp hgp hrow e0 e1 e2 e3 e4 e5 e6 e7 e8 e9 e10
      generalize hac2 : acc ++ [invOf o] = acc2 at *
      have HAC2 : Hid (acc2 = [invOf o]) := by rw [← hac2, hacc.out]; rfl
      have hal2 : acc2.length = acc.length + 1 := by rw [← hac2]; simp
      have hpf := HP.out.form
      clear hac2
      rw [← hal2] at HP ⊢
      have hz3 : w.heap.size ≤ wp.heap.size := hz2
      have hl2 : acc2.length ≤ 3 := by omega
      clear HOW hpf hzb
      go_wp2_with (at_builtin; refine wpList_push elEv ev_len ev_one rfl (.tmp 34) (.tmp 44) rfl _ acc2 rfl (HP.out.ext (by (repeat' (with_reducible first | exact Below.refl _ _ | refine Ext.drewN ?_ _ | refine Below.drew ?_ | refine Below.setCell ?_ ?_ _ | refine Below.alloc ?_ ?_ _)) <;> (first | omega | (simp; done) | (simp; omega)))) (by simp; omega) _ 1 (ansOf o) rfl (Row1.made' (by simp) _ (ansOf o).cells) (by simp; omega) (by decide) ?_)
      intro pA2 pc2 wp2 hp2 hgp2
      have HX3 : Hid (Ext w wp2) := (by (repeat' (with_reducible first | exact HX2.out | exact Below.refl _ _ | refine Ext.drewN ?_ _ | refine Below.drew ?_ | refine Below.setCell ?_ ?_ _ | refine Below.alloc ?_ ?_ _)) <;> (first | omega | (simp; done) | (simp; omega)) : Ext w _).grown hgp2 (by have := HX2.out.size; first | omega | (simp; omega)) (fun j hj => (HP.out.lt j (by first | exact hj | (rw [hal2]; exact hj))).1)
      have HP2 := Lib.hid hp2
      clear hp2 hgp2
      go_wp2_with fail
      go_roundw
      case measure => simp [intOf]
      case rel => exact ⟨1, acc2 ++ [ansOf o], .inr ⟨rfl, by unfold Hid; rw [HAC2.out]; rfl⟩, HP2.out, by go_num, HX3.out⟩
    · have HSL := Lib.hid (HOW.out.sl (R := REv) ev_len (fun _ => rfl))
      have hlen : acc.length = 2 := by rw [hacc.out]; rfl
      rw [hlen] at HSL HOW ⊢
      rw [hacc.out] at HSL HOW
      obtain ⟨bv, ov, rfl, hbv, hcv⟩ := HSL.out.evs_at (by simp)
      have hx := hcv 0 (by simp) wr (Ext.refl _)
      have hy := hcv 1 (by simp) wr (Ext.refl _)
      simp only [List.getElem_cons_zero, List.getElem_cons_succ, Nat.zero_mul, Nat.add_zero, Nat.one_mul] at hx hy
      have HST := Lib.hid (stable2_any bv ov vc (invOf o) (ansOf o) wr hx hy hbv (by have := HXY.out; omega))
      clear hx hy hcv
      go_wp2_with fail
      refine HST.out.mono ?_
      rintro e w5 ⟨rfl, hb5⟩
      go_wp2_with fail
      go_ret
      exact ⟨⟨_, rfl, HOW.out.ext hb5⟩, Ext.trans HB.out hb5⟩
end Go.Proofs.YtgpnockjonicpaaDoor
