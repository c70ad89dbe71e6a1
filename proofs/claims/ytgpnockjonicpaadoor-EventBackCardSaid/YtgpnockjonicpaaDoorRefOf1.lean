/- ref26.put: an event in its place. Conditions: fewer than 10^6 events. -/
import Derived.Test.YtgpnockjonicpaaDoorLw1
import Derived.Test.YtgpnockjonicpaaDoorStab6
namespace Go.Proofs.YtgpnockjonicpaaDoor
set_option linter.unusedSimpArgs false
set_option linter.unusedVariables false
open Go.RowKit

/-- how far down the place of an event lies -/
def putN (l : List EvD) (e : EvD) : Nat → Nat
  | 0 => 0
  | n + 1 => if aheadE e (l[n]?.getD default) then putN l e n else n + 1
def putL (l : List EvD) (e : EvD) : List EvD := l.take (putN l e l.length) ++ [e] ++ l.drop (putN l e l.length)
theorem putN_le (l : List EvD) (e : EvD) : ∀ n, putN l e n ≤ n
  | 0 => Nat.le_refl _
  | n + 1 => by
    unfold putN
    split
    · exact Nat.le_trans (putN_le l e n) (Nat.le_succ n)
    · exact Nat.le_refl _
theorem putL_len (l : List EvD) (e : EvD) : (putL l e).length = l.length + 1 := by
  have := putN_le l e l.length
  unfold putL
  simp
  omega
set_option maxRecDepth 100000 in
set_option maxHeartbeats 8000000 in
theorem refPut_any (V : Value) (l : List EvD) (x : EvD) (w : World) (hs : Sl w 10 REv V l) (hn : l.length ≤ 1000000) :
    Calls Tryd.prog 18 #[V, x.val] w fun e w' => (∃ v, e = .returned v ∧ OwnL w' w.heap.size 44 10 EvD.cells v (putL l x)) ∧ Ext w w' := by
  obtain ⟨A, c, rfl⟩ := hs.form
  obtain ⟨_, hc1, hc2, _⟩ := hs.at
  have HSL := Lib.hid hs
  have HBX : Hid (∀ W : World, Ext (w.alloc (.cells #[.int .i64 x.time, .int .i64 x.proc, .bool x.answer, .int .i64 x.id, .int .i64 x.object, .int .i64 x.kind, .int .i64 x.method, .int .i64 x.arg, .int .i64 x.second, .int .i64 x.result] 44)) W → At10 W w.heap.size x) := fun W h => (At10.row (Row1.made w 44 x.cells)).ext h (by simp)
  clear hs
  go_enter Tryd.func18, Tryd.ntmps18
  go_wp2_with fail
  go_loopw [5] (fun v wr => ∃ k : Nat, k ≤ l.length ∧ v = .int .i64 k ∧ putN l x k = putN l x l.length ∧ Ext (w.alloc (.cells #[.int .i64 x.time, .int .i64 x.proc, .bool x.answer, .int .i64 x.id, .int .i64 x.object, .int .i64 x.kind, .int .i64 x.method, .int .i64 x.arg, .int .i64 x.second, .int .i64 x.result] 44)) wr) (fun v _ => (intOf v).toNat)
  case atStart => exact ⟨l.length, Nat.le_refl _, rfl, rfl, Ext.refl _⟩
  case round =>
    obtain ⟨k, hk, rfl, hpk, hb⟩ := hrel
    have HB := Lib.hid hb
    have HX : Hid (Ext w wr) := Ext.trans (Ext.alloc _ _) hb
    have HPK := Lib.hid hpk
    have hzr := hb.size
    simp at hzr
    clear hb hpk
    obtain ⟨go, hgo⟩ : ∃ b : Bool, b = (match k with | 0 => false | m + 1 => aheadE x (l[m]?.getD default)) := ⟨_, rfl⟩
    have HGO := Lib.hid hgo
    clear hgo
    go_upto_region 2 with fail
    go_cut [19] (fun s wx => s = .bool go ∧ Ext wr wx)
    case first =>
      cases k with
      | zero =>
        have s0 : decide ((0 : Int) < 0) = false := by decide
        refine wp_region_held_drew (S := fun W => True) (by kernel_rfl) (trivial) (fun hHeld => ?_)
        refine' wpAnyH_take (i := 0) (oi := ?zoi0a) (v := ?zv0a) ?zhi0a (by kernel_rfl) (by kernel_rfl) (by kernel_rfl) ?zhQ0a (Or.inl ⟨?zhw0a, ?zhy0a⟩) (by assumption) ?zrest0a; (case zhi0a => simp only [List.getElem?_toArray, List.getElem?_cons_succ, List.getElem?_cons_zero]; exact rfl); (case zhQ0a => exact fun _ _ _ h => h); (case zhw0a => rfl); (case zhy0a => intro w hSw; (try dsimp only at hSw); go_simp; (try with_reducible rfl)); (try simp only [Act.put, List.setIfInBounds_toArray, List.set_cons_zero, List.set_cons_succ])
        refine' wpAnyH_take (i := 1) (oi := ?zoi1a) (v := ?zv1a) ?zhi1a (by kernel_rfl) (by kernel_rfl) (by kernel_rfl) ?zhQ1a (Or.inl ⟨?zhw1a, ?zhy1a⟩) (by assumption) ?zrest1a; (case zhi1a => simp only [List.getElem?_toArray, List.getElem?_cons_succ, List.getElem?_cons_zero]; exact rfl); (case zhQ1a => exact fun _ _ _ h => h); (case zhw1a => rfl); (case zhy1a => intro w hSw; (try dsimp only at hSw); go_simp; (try with_reducible rfl)); (try simp only [Act.put, List.setIfInBounds_toArray, List.set_cons_zero, List.set_cons_succ])
        refine' wpAnyH_take (i := 2) (oi := ?zoi2a) (v := ?zv2a) ?zhi2a (by kernel_rfl) (by kernel_rfl) (by kernel_rfl) ?zhQ2a (Or.inl ⟨?zhw2a, ?zhy2a⟩) (by assumption) ?zrest2a; (case zhi2a => simp only [List.getElem?_toArray, List.getElem?_cons_succ, List.getElem?_cons_zero]; exact rfl); (case zhQ2a => exact fun _ _ _ h => h); (case zhw2a => rfl); (case zhy2a => intro w hSw; (try dsimp only at hSw); go_simp; (try with_reducible rfl)); (try simp only [Act.put, List.setIfInBounds_toArray, List.set_cons_zero, List.set_cons_succ])
        refine' wpAnyH_take (i := 3) (oi := ?zoi3a) (v := undef) ?zhi3a (by kernel_rfl) (by kernel_rfl) (by kernel_rfl) ?zhQ3a (Or.inr ⟨?zhw3a, rfl⟩) (by assumption) ?zrest3a; (case zhi3a => simp only [List.getElem?_toArray, List.getElem?_cons_succ, List.getElem?_cons_zero]; exact rfl); (case zhQ3a => exact fun _ _ _ h => h); (case zhw3a => rfl); (try simp only [Act.put, List.setIfInBounds_toArray, List.set_cons_zero, List.set_cons_succ])
        refine' wpAnyH_take (i := 4) (oi := ?zoi4a) (v := undef) ?zhi4a (by kernel_rfl) (by kernel_rfl) (by kernel_rfl) ?zhQ4a (Or.inr ⟨?zhw4a, rfl⟩) (by assumption) ?zrest4a; (case zhi4a => simp only [List.getElem?_toArray, List.getElem?_cons_succ, List.getElem?_cons_zero]; exact rfl); (case zhQ4a => exact fun _ _ _ h => h); (case zhw4a => rfl); (try simp only [Act.put, List.setIfInBounds_toArray, List.set_cons_zero, List.set_cons_succ])
        refine' wpAnyH_take (i := 5) (oi := ?zoi5a) (v := undef) ?zhi5a (by kernel_rfl) (by kernel_rfl) (by kernel_rfl) ?zhQ5a (Or.inr ⟨?zhw5a, rfl⟩) (by assumption) ?zrest5a; (case zhi5a => simp only [List.getElem?_toArray, List.getElem?_cons_succ, List.getElem?_cons_zero]; exact rfl); (case zhQ5a => exact fun _ _ _ h => h); (case zhw5a => rfl); (try simp only [Act.put, List.setIfInBounds_toArray, List.set_cons_zero, List.set_cons_succ])
        refine' wpAnyH_take (i := 6) (oi := ?zoi6a) (v := undef) ?zhi6a (by kernel_rfl) (by kernel_rfl) (by kernel_rfl) ?zhQ6a (Or.inr ⟨?zhw6a, rfl⟩) (by assumption) ?zrest6a; (case zhi6a => simp only [List.getElem?_toArray, List.getElem?_cons_succ, List.getElem?_cons_zero]; exact rfl); (case zhQ6a => exact fun _ _ _ h => h); (case zhw6a => rfl); (try simp only [Act.put, List.setIfInBounds_toArray, List.set_cons_zero, List.set_cons_succ])
        refine' wpAnyH_take (i := 7) (oi := ?zoi7a) (v := undef) ?zhi7a (by kernel_rfl) (by kernel_rfl) (by kernel_rfl) ?zhQ7a (Or.inr ⟨?zhw7a, rfl⟩) (by assumption) ?zrest7a; (case zhi7a => simp only [List.getElem?_toArray, List.getElem?_cons_succ, List.getElem?_cons_zero]; exact rfl); (case zhQ7a => exact fun _ _ _ h => h); (case zhw7a => rfl); (try simp only [Act.put, List.setIfInBounds_toArray, List.set_cons_zero, List.set_cons_succ])
        refine' wpAnyH_take (i := 8) (oi := ?zoi8a) (v := undef) ?zhi8a (by kernel_rfl) (by kernel_rfl) (by kernel_rfl) ?zhQ8a (Or.inr ⟨?zhw8a, rfl⟩) (by assumption) ?zrest8a; (case zhi8a => simp only [List.getElem?_toArray, List.getElem?_cons_succ, List.getElem?_cons_zero]; exact rfl); (case zhQ8a => exact fun _ _ _ h => h); (case zhw8a => rfl); (try simp only [Act.put, List.setIfInBounds_toArray, List.set_cons_zero, List.set_cons_succ])
        refine' wpAnyH_take (i := 9) (oi := ?zoi9a) (v := undef) ?zhi9a (by kernel_rfl) (by kernel_rfl) (by kernel_rfl) ?zhQ9a (Or.inr ⟨?zhw9a, rfl⟩) (by assumption) ?zrest9a; (case zhi9a => simp only [List.getElem?_toArray, List.getElem?_cons_succ, List.getElem?_cons_zero]; exact rfl); (case zhQ9a => exact fun _ _ _ h => h); (case zhw9a => rfl); (try simp only [Act.put, List.setIfInBounds_toArray, List.set_cons_zero, List.set_cons_succ])
        refine' wpAnyH_take (i := 10) (oi := ?zoi10a) (v := ?zv10a) ?zhi10a (by kernel_rfl) (by kernel_rfl) (by kernel_rfl) ?zhQ10a (Or.inl ⟨?zhw10a, ?zhy10a⟩) (by assumption) ?zrest10a; (case zhi10a => simp only [List.getElem?_toArray, List.getElem?_cons_succ, List.getElem?_cons_zero]; exact rfl); (case zhQ10a => exact fun _ _ _ h => h); (case zhw10a => rfl); (case zhy10a => intro w hSw; (try dsimp only at hSw); go_simp; (try with_reducible rfl)); (try simp only [Act.put, List.setIfInBounds_toArray, List.set_cons_zero, List.set_cons_succ])
        refine wpAnyH_done (by kernel_rfl) ?_ _
        go_wp2_with fail
        go_meet
        exact ⟨by rw [HGO.out], by (repeat' (with_reducible first | exact Below.refl _ _ | refine Ext.drewN ?_ _ | refine Below.drew ?_ | refine Below.setCell ?_ ?_ _ | refine Below.alloc ?_ ?_ _)) <;> (first | omega | (simp; done) | (simp; omega))⟩
      | succ m =>
        obtain ⟨b, off, rfl, hbl, hcell⟩ := HSL.out.evs_at (by omega)
        have HE := Lib.hid (hcell m (by omega))
        have HLQ : Hid (go = aheadE x l[m]) := by
          have := HGO.out
          simp only [List.getElem?_eq_getElem (show m < l.length by omega)] at this
          exact this
        clear hcell
        generalize l[m] = y at *
        have HKS : Hid (∀ W : World, Ext wr W → (((W.cell? ⟨w.heap.size, 0, none⟩ = some (.int .i64 x.time) ∧ W.cell? ⟨w.heap.size, 1, none⟩ = some (.int .i64 x.proc) ∧ W.cell? ⟨w.heap.size, 2, none⟩ = some (.bool x.answer) ∧ W.cell? ⟨w.heap.size, 3, none⟩ = some (.int .i64 x.id) ∧ W.cell? ⟨w.heap.size, 4, none⟩ = some (.int .i64 x.object) ∧ W.cell? ⟨w.heap.size, 5, none⟩ = some (.int .i64 x.kind) ∧ W.cell? ⟨w.heap.size, 6, none⟩ = some (.int .i64 x.method) ∧ W.cell? ⟨w.heap.size, 7, none⟩ = some (.int .i64 x.arg) ∧ W.cell? ⟨w.heap.size, 8, none⟩ = some (.int .i64 x.second) ∧ W.cell? ⟨w.heap.size, 9, none⟩ = some (.int .i64 x.result))) ∧ (W.cell? ⟨b, off + m * 10, none⟩ = some (.int .i64 y.time) ∧ W.cell? ⟨b, off + m * 10 + 1, none⟩ = some (.int .i64 y.proc) ∧ W.cell? ⟨b, off + m * 10 + 2, none⟩ = some (.bool y.answer) ∧ W.cell? ⟨b, off + m * 10 + 3, none⟩ = some (.int .i64 y.id) ∧ W.cell? ⟨b, off + m * 10 + 4, none⟩ = some (.int .i64 y.object) ∧ W.cell? ⟨b, off + m * 10 + 5, none⟩ = some (.int .i64 y.kind) ∧ W.cell? ⟨b, off + m * 10 + 6, none⟩ = some (.int .i64 y.method) ∧ W.cell? ⟨b, off + m * 10 + 7, none⟩ = some (.int .i64 y.arg) ∧ W.cell? ⟨b, off + m * 10 + 8, none⟩ = some (.int .i64 y.second) ∧ W.cell? ⟨b, off + m * 10 + 9, none⟩ = some (.int .i64 y.result)))) := fun W h => ⟨HBX.out W (Ext.trans HB.out h), HE.out W (Ext.trans HX.out h)⟩
        have s1 : IntKind.i64.wrap (m : Int) = (m : Int) := IntWalk.i64_in _ (by omega)
        have s2 : (0 : Int) ≤ (m : Int) := by omega
        have s3 : (m : Int) < (l.length : Int) := by omega
        have s4 : decide ((0 : Int) < ((m + 1 : Nat) : Int)) = true := (by first | (simp; done) | (simp; omega) | omega)
        refine wp_region_held_drew (S := fun W => ((W.cell? ⟨w.heap.size, 0, none⟩ = some (.int .i64 x.time) ∧ W.cell? ⟨w.heap.size, 1, none⟩ = some (.int .i64 x.proc) ∧ W.cell? ⟨w.heap.size, 2, none⟩ = some (.bool x.answer) ∧ W.cell? ⟨w.heap.size, 3, none⟩ = some (.int .i64 x.id) ∧ W.cell? ⟨w.heap.size, 4, none⟩ = some (.int .i64 x.object) ∧ W.cell? ⟨w.heap.size, 5, none⟩ = some (.int .i64 x.kind) ∧ W.cell? ⟨w.heap.size, 6, none⟩ = some (.int .i64 x.method) ∧ W.cell? ⟨w.heap.size, 7, none⟩ = some (.int .i64 x.arg) ∧ W.cell? ⟨w.heap.size, 8, none⟩ = some (.int .i64 x.second) ∧ W.cell? ⟨w.heap.size, 9, none⟩ = some (.int .i64 x.result))) ∧ (W.cell? ⟨b, off + m * 10, none⟩ = some (.int .i64 y.time) ∧ W.cell? ⟨b, off + m * 10 + 1, none⟩ = some (.int .i64 y.proc) ∧ W.cell? ⟨b, off + m * 10 + 2, none⟩ = some (.bool y.answer) ∧ W.cell? ⟨b, off + m * 10 + 3, none⟩ = some (.int .i64 y.id) ∧ W.cell? ⟨b, off + m * 10 + 4, none⟩ = some (.int .i64 y.object) ∧ W.cell? ⟨b, off + m * 10 + 5, none⟩ = some (.int .i64 y.kind) ∧ W.cell? ⟨b, off + m * 10 + 6, none⟩ = some (.int .i64 y.method) ∧ W.cell? ⟨b, off + m * 10 + 7, none⟩ = some (.int .i64 y.arg) ∧ W.cell? ⟨b, off + m * 10 + 8, none⟩ = some (.int .i64 y.second) ∧ W.cell? ⟨b, off + m * 10 + 9, none⟩ = some (.int .i64 y.result))) (by kernel_rfl) (HKS.out _ (by (repeat' (with_reducible first | exact Below.refl _ _ | refine Ext.drewN ?_ _ | refine Below.drew ?_ | refine Below.setCell ?_ ?_ _ | refine Below.alloc ?_ ?_ _)) <;> (first | omega | (simp; done) | (simp; omega)))) (fun hHeld => ?_)
        refine' wpAnyH_take (i := 0) (oi := ?zoi0b) (v := ?zv0b) ?zhi0b (by kernel_rfl) (by kernel_rfl) (by kernel_rfl) ?zhQ0b (Or.inl ⟨?zhw0b, ?zhy0b⟩) (by assumption) ?zrest0b; (case zhi0b => simp only [List.getElem?_toArray, List.getElem?_cons_succ, List.getElem?_cons_zero]; exact rfl); (case zhQ0b => exact fun _ _ _ h => h); (case zhw0b => rfl); (case zhy0b => intro w hSw; (try dsimp only at hSw); go_simp; (try with_reducible rfl)); (try simp only [Act.put, List.setIfInBounds_toArray, List.set_cons_zero, List.set_cons_succ])
        refine' wpAnyH_take (i := 1) (oi := ?zoi1b) (v := ?zv1b) ?zhi1b (by kernel_rfl) (by kernel_rfl) (by kernel_rfl) ?zhQ1b (Or.inl ⟨?zhw1b, ?zhy1b⟩) (by assumption) ?zrest1b; (case zhi1b => simp only [List.getElem?_toArray, List.getElem?_cons_succ, List.getElem?_cons_zero]; exact rfl); (case zhQ1b => exact fun _ _ _ h => h); (case zhw1b => rfl); (case zhy1b => intro w hSw; (try dsimp only at hSw); go_simp; (try with_reducible rfl)); (try simp only [Act.put, List.setIfInBounds_toArray, List.set_cons_zero, List.set_cons_succ])
        refine' wpAnyH_take (i := 2) (oi := ?zoi2b) (v := ?zv2b) ?zhi2b (by kernel_rfl) (by kernel_rfl) (by kernel_rfl) ?zhQ2b (Or.inl ⟨?zhw2b, ?zhy2b⟩) (by assumption) ?zrest2b; (case zhi2b => simp only [List.getElem?_toArray, List.getElem?_cons_succ, List.getElem?_cons_zero]; exact rfl); (case zhQ2b => exact fun _ _ _ h => h); (case zhw2b => rfl); (case zhy2b => intro w hSw; (try dsimp only at hSw); go_simp; (try with_reducible rfl)); (try simp only [Act.put, List.setIfInBounds_toArray, List.set_cons_zero, List.set_cons_succ])
        refine' wpAnyH_take (i := 3) (oi := ?zoi3b) (v := ?zv3b) ?zhi3b (by kernel_rfl) (by kernel_rfl) (by kernel_rfl) ?zhQ3b (Or.inl ⟨?zhw3b, ?zhy3b⟩) (by assumption) ?zrest3b; (case zhi3b => simp only [List.getElem?_toArray, List.getElem?_cons_succ, List.getElem?_cons_zero]; exact rfl); (case zhQ3b => exact fun _ _ _ h => h); (case zhw3b => rfl); (case zhy3b => intro w hSw; (try dsimp only at hSw); go_simp; (try with_reducible rfl)); (try simp only [Act.put, List.setIfInBounds_toArray, List.set_cons_zero, List.set_cons_succ])
        refine' wpAnyH_take (i := 4) (oi := ?zoi4b) (v := ?zv4b) ?zhi4b (by kernel_rfl) (by kernel_rfl) (by kernel_rfl) ?zhQ4b (Or.inl ⟨?zhw4b, ?zhy4b⟩) (by assumption) ?zrest4b; (case zhi4b => simp only [List.getElem?_toArray, List.getElem?_cons_succ, List.getElem?_cons_zero]; exact rfl); (case zhQ4b => exact fun _ _ _ h => h); (case zhw4b => rfl); (case zhy4b => intro w hSw; (try dsimp only at hSw); go_simp; (try with_reducible rfl)); (try simp only [Act.put, List.setIfInBounds_toArray, List.set_cons_zero, List.set_cons_succ])
        refine' wpAnyH_take (i := 5) (oi := ?zoi5b) (v := ?zv5b) ?zhi5b (by kernel_rfl) (by kernel_rfl) (by kernel_rfl) ?zhQ5b (Or.inl ⟨?zhw5b, ?zhy5b⟩) (by assumption) ?zrest5b; (case zhi5b => simp only [List.getElem?_toArray, List.getElem?_cons_succ, List.getElem?_cons_zero]; exact rfl); (case zhQ5b => exact fun _ _ _ h => h); (case zhw5b => rfl); (case zhy5b => intro w hSw; (try dsimp only at hSw); go_simp; (try with_reducible rfl)); (try simp only [Act.put, List.setIfInBounds_toArray, List.set_cons_zero, List.set_cons_succ])
        refine' wpAnyH_take (i := 6) (oi := ?zoi6b) (v := ?zv6b) ?zhi6b (by kernel_rfl) (by kernel_rfl) (by kernel_rfl) ?zhQ6b (Or.inl ⟨?zhw6b, ?zhy6b⟩) (by assumption) ?zrest6b; (case zhi6b => simp only [List.getElem?_toArray, List.getElem?_cons_succ, List.getElem?_cons_zero]; exact rfl); (case zhQ6b => exact fun _ _ _ h => h); (case zhw6b => rfl); (case zhy6b => intro w hSw; (try dsimp only at hSw); go_simp; (try with_reducible rfl)); (try simp only [Act.put, List.setIfInBounds_toArray, List.set_cons_zero, List.set_cons_succ])
        refine' wpAnyH_take (i := 7) (oi := ?zoi7b) (v := ?zv7b) ?zhi7b (by kernel_rfl) (by kernel_rfl) (by kernel_rfl) ?zhQ7b (Or.inl ⟨?zhw7b, ?zhy7b⟩) (by assumption) ?zrest7b; (case zhi7b => simp only [List.getElem?_toArray, List.getElem?_cons_succ, List.getElem?_cons_zero]; exact rfl); (case zhQ7b => exact fun _ _ _ h => h); (case zhw7b => rfl); (case zhy7b => intro w hSw; (try dsimp only at hSw); go_simp; (try with_reducible rfl)); (try simp only [Act.put, List.setIfInBounds_toArray, List.set_cons_zero, List.set_cons_succ])
        refine' wpAnyH_take (i := 8) (oi := ?zoi8b) (v := ?zv8b) ?zhi8b (by kernel_rfl) (by kernel_rfl) (by kernel_rfl) ?zhQ8b (Or.inl ⟨?zhw8b, ?zhy8b⟩) (by assumption) ?zrest8b; (case zhi8b => simp only [List.getElem?_toArray, List.getElem?_cons_succ, List.getElem?_cons_zero]; exact rfl); (case zhQ8b => exact fun _ _ _ h => h); (case zhw8b => rfl); (case zhy8b => intro w hSw; (try dsimp only at hSw); go_simp; (try with_reducible rfl)); (try simp only [Act.put, List.setIfInBounds_toArray, List.set_cons_zero, List.set_cons_succ])
        refine wpAnyH_ready (rs := [9]) (by kernel_rfl) (by simp) ?_; refine AllReadyH.cons rfl (fun K hK => ?_) AllReadyH.nil; go_simp
        refine (refAheadE_any x y _).mono ?_
        rintro e w1 ⟨rfl, hb1⟩
        have HB1 := Lib.hid (Ext.trans (by (repeat' (with_reducible first | exact Below.refl _ _ | refine Ext.drewN ?_ _ | refine Below.drew ?_ | refine Below.setCell ?_ ?_ _ | refine Below.alloc ?_ ?_ _)) <;> (first | omega | (simp; done) | (simp; omega)) : Ext wr _) hb1)
        clear hb1
        (try dsimp only)
        (try go_simp)
        refine hK.out _ _ (HKS.out _ HB1.out) (fun hHeld => ?_)
        clear hK K
        (try simp only [Act.put, List.setIfInBounds_toArray, List.set_cons_zero, List.set_cons_succ])
        refine' wpAnyH_take (i := 10) (oi := ?zoi10b) (v := ?zv10b) ?zhi10b (by kernel_rfl) (by kernel_rfl) (by kernel_rfl) ?zhQ10b (Or.inl ⟨?zhw10b, ?zhy10b⟩) (by assumption) ?zrest10b; (case zhi10b => simp only [List.getElem?_toArray, List.getElem?_cons_succ, List.getElem?_cons_zero]; exact rfl); (case zhQ10b => exact fun _ _ _ h => h); (case zhw10b => rfl); (case zhy10b => intro w hSw; (try dsimp only at hSw); go_simp; (try with_reducible rfl)); (try simp only [Act.put, List.setIfInBounds_toArray, List.set_cons_zero, List.set_cons_succ])
        refine wpAnyH_done (by kernel_rfl) ?_ _
        go_wp2_with fail
        go_meet
        exact ⟨by rw [HLQ.out], HB1.out⟩
    case rest =>
    obtain ⟨rfl, hbc⟩ := hcut
    have HBC := Lib.hid (Ext.trans HB.out hbc)
    have HXC := Lib.hid (Ext.trans HX.out hbc)
    have hzc := Nat.le_trans hzr hbc.size
    clear hbc
    cases go with
    | true =>
      cases k with
      | zero => exact absurd HGO.out (by simp)
      | succ m =>
        have HN : Hid (putN l x m = putN l x l.length) := by
          rw [← HPK.out]
          unfold Hid
          conv => rhs; unfold putN
          have := HGO.out
          simp only at this
          rw [if_pos this.symm]
        go_wp2_with fail
        go_roundw
        case measure => simp [intOf]
        case rel => exact ⟨m, by omega, by go_num, HN.out, HBC.out⟩
    | false =>
      have HN : Hid (putN l x l.length = k) := by
        rw [← HPK.out]
        cases k with
        | zero => rfl
        | succ m =>
          unfold Hid putN
          have := HGO.out
          simp only at this
          rw [← this]
          rfl
      have HV : Hid (putL l x = l.take k ++ [x] ++ l.drop k) := by unfold Hid putL; rw [HN.out]
      clear HGO HPK HB
      go_upto_region 4 with fail
      go_wp2_with (at_builtin; go_loud (refine wpList_more elREv ev_len ev_one rfl (.tmp 22) (.tmp 25) rfl _ [] rfl (OwnL.made _ _ _ _) (by first | (simp; done) | (simp; omega) | omega) _ _ _ (l.take k) rfl ?la1 ?la2 ?la3 (by decide) ?_))
      case la1 => rw [List.length_take]; omega
      case la2 => exact Src.sl ev_len (by decide) (fun _ _ h => h) ((HSL.out.ext (Ext.trans HXC.out (by (repeat' (with_reducible first | exact Below.refl _ _ | refine Ext.drewN ?_ _ | refine Below.drew ?_ | refine Below.setCell ?_ ?_ _ | refine Below.alloc ?_ ?_ _)) <;> (first | omega | (simp; done) | (simp; omega))))).take hk)
      case la3 => rw [List.length_take]; simp; omega
      intro pA pc wp hp1 hgp
      have X1 := Lib.hid ((OwnL.made wc 44 10 EvD.cells).grown (a := wc) (by (repeat' (with_reducible first | exact Below.refl _ _ | refine Ext.drewN ?_ _ | refine Below.drew ?_ | refine Below.setCell ?_ ?_ _ | refine Below.alloc ?_ ?_ _)) <;> (first | omega | (simp; done) | (simp; omega))) hgp (by simp))
      have O1 := Lib.hid hp1
      clear hgp hp1
      have hz1 := X1.out.size
      have HP1 : Hid ((l.take k).length = k) := by unfold Hid; rw [List.length_take]; omega
      obtain ⟨a0, a1, a2, a3, a4, a5, a6, a7, a8, a9⟩ := HBX.out wp (Ext.trans HBC.out X1.out)
      go_wp2_with (at_builtin; go_loud (refine wpList_push elREv ev_len ev_one rfl (.tmp 27) (.tmp 29) rfl _ (l.take k) rfl (O1.out.ext (by (repeat' (with_reducible first | exact Below.refl _ _ | refine Ext.drewN ?_ _ | refine Below.drew ?_ | refine Below.setCell ?_ ?_ _ | refine Below.alloc ?_ ?_ _)) <;> (first | omega | (simp; done) | (simp; omega)))) (by first | (simp; done) | (simp; omega) | omega) _ 1 x rfl (Row1.made _ _ x.cells) (by have := HP1.out; omega) (by decide) ?_))
      intro qA qc wq hq1 hgq
      have X2 := Lib.hid ((O1.out.ext (by (repeat' (with_reducible first | exact Below.refl _ _ | refine Ext.drewN ?_ _ | refine Below.drew ?_ | refine Below.setCell ?_ ?_ _ | refine Below.alloc ?_ ?_ _)) <;> (first | omega | (simp; done) | (simp; omega)))).grown (a := wc) (by (repeat' (with_reducible first | exact X1.out | exact Below.refl _ _ | refine Ext.drewN ?_ _ | refine Below.drew ?_ | refine Below.setCell ?_ ?_ _ | refine Below.alloc ?_ ?_ _)) <;> (first | omega | (simp; done) | (simp; omega))) hgq (Nat.le_refl _))
      have O2 := Lib.hid hq1
      clear hgq hq1 a0 a1 a2 a3 a4 a5 a6 a7 a8 a9
      have hz2 := X2.out.size
      have HP2 : Hid ((l.take k ++ [x]).length = k + 1) := by unfold Hid; rw [List.length_append, HP1.out]; rfl
      go_wp2_with (at_builtin; go_loud (refine wpList_more elREv ev_len ev_one rfl (.tmp 31) (.tmp 34) rfl _ (l.take k ++ [x]) rfl O2.out (by first | (simp; done) | (simp; omega) | omega) _ _ _ (l.drop k) rfl ?lb1 ?lb2 ?lb3 (by decide) ?_))
      all_goals (try (first
        | (rw [List.length_drop]; done)
        | (rw [HP2.out, List.length_drop]; omega)
        | (have hdr := (HSL.out.ext (Ext.trans HXC.out X2.out)).drop hk; rw [if_pos (by assumption)] at hdr; exact Src.sl ev_len (by decide) (fun _ _ h => h) hdr)
        | (have hdr := (HSL.out.ext (Ext.trans HXC.out X2.out)).drop hk; rw [if_neg (by assumption)] at hdr; exact Src.sl ev_len (by decide) (fun _ _ h => h) hdr)))
      all_goals
        intro rA rc wz hr1 hgr
        have X3 := Lib.hid (O2.out.grown (a := wc) (by (repeat' (with_reducible first | exact X2.out | exact Below.refl _ _ | refine Ext.drewN ?_ _ | refine Below.drew ?_ | refine Below.setCell ?_ ?_ _ | refine Below.alloc ?_ ?_ _)) <;> (first | omega | (simp; done) | (simp; omega))) hgr (Nat.le_refl _))
        have O3 := Lib.hid hr1
        clear hgr hr1
        go_wp2_with fail
        go_ret
        exact ⟨⟨_, rfl, by rw [HV.out, List.append_assoc]; exact O3.out.lower (by omega)⟩, Ext.trans HXC.out X3.out⟩
end Go.Proofs.YtgpnockjonicpaaDoor
