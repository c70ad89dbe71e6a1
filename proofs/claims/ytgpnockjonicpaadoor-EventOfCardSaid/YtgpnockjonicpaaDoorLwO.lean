/- law26.same, law26.EventOf, given that law26.awake answers yes. Conditions: none. -/
import Derived.Test.YtgpnockjonicpaaDoorRefOf2
import Derived.Test.YtgpnockjonicpaaDoorOrd1
namespace Go.Proofs.YtgpnockjonicpaaDoor
set_option linter.unusedSimpArgs false
set_option linter.unusedVariables false
open Go.RowKit

set_option maxRecDepth 100000 in
set_option maxHeartbeats 4000000 in
theorem lawSame_any (V U : Value) (xs : List EvD) (w : World) (hs : Sl w 10 REv V xs) (hu : Sl w 10 REv U xs) :
    Calls Tryd.prog 7 #[V, U] w fun e w' => e = .returned (.bool true) ∧ Ext w w' := by
  obtain ⟨A, c, rfl⟩ := hs.form
  obtain ⟨A2, c2, rfl⟩ := hu.form
  obtain ⟨_, hc1, hc2, hA⟩ := hs.at
  clear hA
  have HS := Lib.hid hs
  have HU := Lib.hid hu
  clear hs hu
  have h63 : xs.length ≤ 9223372036854775807 := by omega
  go_enter Tryd.func7, Tryd.ntmps7
  go_wp2_with fail
  go_loopw [5] (fun i wr => ∃ (k : Nat), k ≤ xs.length ∧ i = .int .i64 k ∧ Ext w wr) (fun i _ => xs.length - (intOf i).toNat)
  case atStart => exact ⟨0, by omega, rfl, Ext.refl _⟩
  case round =>
    obtain ⟨k, hk, rfl, hb⟩ := hrel
    have HB := Lib.hid hb
    have hz := hb.size
    clear hb
    by_cases hlt : k < xs.length
    · have hd : decide ((k : Int) < (xs.length : Int)) = true := by simp; omega
      obtain ⟨b, off, rfl, hbl, hcell⟩ := HS.out.evs_at (by omega)
      obtain ⟨b2, off2, rfl, hbl2, hcell2⟩ := HU.out.evs_at (by omega)
      have HKS : Hid (∀ W : World, Ext w W → ((W.cell? ⟨b, off + k * 10, none⟩ = some (.int .i64 xs[k].time) ∧ W.cell? ⟨b, off + k * 10 + 1, none⟩ = some (.int .i64 xs[k].proc) ∧ W.cell? ⟨b, off + k * 10 + 2, none⟩ = some (.bool xs[k].answer) ∧ W.cell? ⟨b, off + k * 10 + 3, none⟩ = some (.int .i64 xs[k].id) ∧ W.cell? ⟨b, off + k * 10 + 4, none⟩ = some (.int .i64 xs[k].object) ∧ W.cell? ⟨b, off + k * 10 + 5, none⟩ = some (.int .i64 xs[k].kind) ∧ W.cell? ⟨b, off + k * 10 + 6, none⟩ = some (.int .i64 xs[k].method) ∧ W.cell? ⟨b, off + k * 10 + 7, none⟩ = some (.int .i64 xs[k].arg) ∧ W.cell? ⟨b, off + k * 10 + 8, none⟩ = some (.int .i64 xs[k].second) ∧ W.cell? ⟨b, off + k * 10 + 9, none⟩ = some (.int .i64 xs[k].result)) ∧ (W.cell? ⟨b2, off2 + k * 10, none⟩ = some (.int .i64 xs[k].time) ∧ W.cell? ⟨b2, off2 + k * 10 + 1, none⟩ = some (.int .i64 xs[k].proc) ∧ W.cell? ⟨b2, off2 + k * 10 + 2, none⟩ = some (.bool xs[k].answer) ∧ W.cell? ⟨b2, off2 + k * 10 + 3, none⟩ = some (.int .i64 xs[k].id) ∧ W.cell? ⟨b2, off2 + k * 10 + 4, none⟩ = some (.int .i64 xs[k].object) ∧ W.cell? ⟨b2, off2 + k * 10 + 5, none⟩ = some (.int .i64 xs[k].kind) ∧ W.cell? ⟨b2, off2 + k * 10 + 6, none⟩ = some (.int .i64 xs[k].method) ∧ W.cell? ⟨b2, off2 + k * 10 + 7, none⟩ = some (.int .i64 xs[k].arg) ∧ W.cell? ⟨b2, off2 + k * 10 + 8, none⟩ = some (.int .i64 xs[k].second) ∧ W.cell? ⟨b2, off2 + k * 10 + 9, none⟩ = some (.int .i64 xs[k].result)))) := fun W h => ⟨hcell k hlt W h, hcell2 k hlt W h⟩
      clear hcell hcell2
      generalize xs[k] = x at *
      have s2 : (0 : Int) ≤ (k : Int) := by omega
      have s3 : (k : Int) < (xs.length : Int) := by omega
      go_upto_region 6 with fail
      refine wp_region_held_drew (S := fun W => (W.cell? ⟨b, off + k * 10, none⟩ = some (.int .i64 x.time) ∧ W.cell? ⟨b, off + k * 10 + 1, none⟩ = some (.int .i64 x.proc) ∧ W.cell? ⟨b, off + k * 10 + 2, none⟩ = some (.bool x.answer) ∧ W.cell? ⟨b, off + k * 10 + 3, none⟩ = some (.int .i64 x.id) ∧ W.cell? ⟨b, off + k * 10 + 4, none⟩ = some (.int .i64 x.object) ∧ W.cell? ⟨b, off + k * 10 + 5, none⟩ = some (.int .i64 x.kind) ∧ W.cell? ⟨b, off + k * 10 + 6, none⟩ = some (.int .i64 x.method) ∧ W.cell? ⟨b, off + k * 10 + 7, none⟩ = some (.int .i64 x.arg) ∧ W.cell? ⟨b, off + k * 10 + 8, none⟩ = some (.int .i64 x.second) ∧ W.cell? ⟨b, off + k * 10 + 9, none⟩ = some (.int .i64 x.result)) ∧ (W.cell? ⟨b2, off2 + k * 10, none⟩ = some (.int .i64 x.time) ∧ W.cell? ⟨b2, off2 + k * 10 + 1, none⟩ = some (.int .i64 x.proc) ∧ W.cell? ⟨b2, off2 + k * 10 + 2, none⟩ = some (.bool x.answer) ∧ W.cell? ⟨b2, off2 + k * 10 + 3, none⟩ = some (.int .i64 x.id) ∧ W.cell? ⟨b2, off2 + k * 10 + 4, none⟩ = some (.int .i64 x.object) ∧ W.cell? ⟨b2, off2 + k * 10 + 5, none⟩ = some (.int .i64 x.kind) ∧ W.cell? ⟨b2, off2 + k * 10 + 6, none⟩ = some (.int .i64 x.method) ∧ W.cell? ⟨b2, off2 + k * 10 + 7, none⟩ = some (.int .i64 x.arg) ∧ W.cell? ⟨b2, off2 + k * 10 + 8, none⟩ = some (.int .i64 x.second) ∧ W.cell? ⟨b2, off2 + k * 10 + 9, none⟩ = some (.int .i64 x.result))) (by kernel_rfl) (HKS.out _ (by (repeat' (with_reducible first | exact HB.out | exact Below.refl _ _ | refine Ext.drewN ?_ _ | refine Below.drew ?_ | refine Below.setCell ?_ ?_ _ | refine Below.alloc ?_ ?_ _)) <;> (first | omega | (simp; done) | (simp; omega)))) (fun hHeld => ?_)
      refine' wpAnyH_take (i := 0) (oi := ?zoi0a) (v := ?zv0a) ?zhi0a (by kernel_rfl) (by kernel_rfl) (by kernel_rfl) ?zhQ0a (Or.inl ⟨?zhw0a, ?zhy0a⟩) (by assumption) ?zrest0a; (case zhi0a => simp only [List.getElem?_toArray, List.getElem?_cons_succ, List.getElem?_cons_zero]; exact rfl); (case zhQ0a => exact fun _ _ _ h => h); (case zhw0a => rfl); (case zhy0a => intro w hSw; (try dsimp only at hSw); go_simp; (try with_reducible rfl)); (try simp only [Act.put, List.setIfInBounds_toArray, List.set_cons_zero, List.set_cons_succ])
      refine' wpAnyH_take (i := 1) (oi := ?zoi1a) (v := ?zv1a) ?zhi1a (by kernel_rfl) (by kernel_rfl) (by kernel_rfl) ?zhQ1a (Or.inl ⟨?zhw1a, ?zhy1a⟩) (by assumption) ?zrest1a; (case zhi1a => simp only [List.getElem?_toArray, List.getElem?_cons_succ, List.getElem?_cons_zero]; exact rfl); (case zhQ1a => exact fun _ _ _ h => h); (case zhw1a => rfl); (case zhy1a => intro w hSw; (try dsimp only at hSw); go_simp; (try with_reducible rfl)); (try simp only [Act.put, List.setIfInBounds_toArray, List.set_cons_zero, List.set_cons_succ])
      refine' wpAnyH_take (i := 2) (oi := ?zoi2a) (v := ?zv2a) ?zhi2a (by kernel_rfl) (by kernel_rfl) (by kernel_rfl) ?zhQ2a (Or.inl ⟨?zhw2a, ?zhy2a⟩) (by assumption) ?zrest2a; (case zhi2a => simp only [List.getElem?_toArray, List.getElem?_cons_succ, List.getElem?_cons_zero]; exact rfl); (case zhQ2a => exact fun _ _ _ h => h); (case zhw2a => rfl); (case zhy2a => intro w hSw; (try dsimp only at hSw); go_simp; (try with_reducible rfl)); (try simp only [Act.put, List.setIfInBounds_toArray, List.set_cons_zero, List.set_cons_succ])
      refine' wpAnyH_take (i := 3) (oi := ?zoi3a) (v := ?zv3a) ?zhi3a (by kernel_rfl) (by kernel_rfl) (by kernel_rfl) ?zhQ3a (Or.inl ⟨?zhw3a, ?zhy3a⟩) (by assumption) ?zrest3a; (case zhi3a => simp only [List.getElem?_toArray, List.getElem?_cons_succ, List.getElem?_cons_zero]; exact rfl); (case zhQ3a => exact fun _ _ _ h => h); (case zhw3a => rfl); (case zhy3a => intro w hSw; (try dsimp only at hSw); go_simp; (try with_reducible rfl)); (try simp only [Act.put, List.setIfInBounds_toArray, List.set_cons_zero, List.set_cons_succ])
      refine' wpAnyH_take (i := 4) (oi := ?zoi4a) (v := ?zv4a) ?zhi4a (by kernel_rfl) (by kernel_rfl) (by kernel_rfl) ?zhQ4a (Or.inl ⟨?zhw4a, ?zhy4a⟩) (by assumption) ?zrest4a; (case zhi4a => simp only [List.getElem?_toArray, List.getElem?_cons_succ, List.getElem?_cons_zero]; exact rfl); (case zhQ4a => exact fun _ _ _ h => h); (case zhw4a => rfl); (case zhy4a => intro w hSw; (try dsimp only at hSw); go_simp; (try with_reducible rfl)); (try simp only [Act.put, List.setIfInBounds_toArray, List.set_cons_zero, List.set_cons_succ])
      refine' wpAnyH_take (i := 5) (oi := ?zoi5a) (v := ?zv5a) ?zhi5a (by kernel_rfl) (by kernel_rfl) (by kernel_rfl) ?zhQ5a (Or.inl ⟨?zhw5a, ?zhy5a⟩) (by assumption) ?zrest5a; (case zhi5a => simp only [List.getElem?_toArray, List.getElem?_cons_succ, List.getElem?_cons_zero]; exact rfl); (case zhQ5a => exact fun _ _ _ h => h); (case zhw5a => rfl); (case zhy5a => intro w hSw; (try dsimp only at hSw); go_simp; (try with_reducible rfl)); (try simp only [Act.put, List.setIfInBounds_toArray, List.set_cons_zero, List.set_cons_succ])
      refine' wpAnyH_take (i := 6) (oi := ?zoi6a) (v := ?zv6a) ?zhi6a (by kernel_rfl) (by kernel_rfl) (by kernel_rfl) ?zhQ6a (Or.inl ⟨?zhw6a, ?zhy6a⟩) (by assumption) ?zrest6a; (case zhi6a => simp only [List.getElem?_toArray, List.getElem?_cons_succ, List.getElem?_cons_zero]; exact rfl); (case zhQ6a => exact fun _ _ _ h => h); (case zhw6a => rfl); (case zhy6a => intro w hSw; (try dsimp only at hSw); go_simp; (try with_reducible rfl)); (try simp only [Act.put, List.setIfInBounds_toArray, List.set_cons_zero, List.set_cons_succ])
      refine' wpAnyH_take (i := 7) (oi := ?zoi7a) (v := ?zv7a) ?zhi7a (by kernel_rfl) (by kernel_rfl) (by kernel_rfl) ?zhQ7a (Or.inl ⟨?zhw7a, ?zhy7a⟩) (by assumption) ?zrest7a; (case zhi7a => simp only [List.getElem?_toArray, List.getElem?_cons_succ, List.getElem?_cons_zero]; exact rfl); (case zhQ7a => exact fun _ _ _ h => h); (case zhw7a => rfl); (case zhy7a => intro w hSw; (try dsimp only at hSw); go_simp; (try with_reducible rfl)); (try simp only [Act.put, List.setIfInBounds_toArray, List.set_cons_zero, List.set_cons_succ])
      refine wpAnyH_ready (rs := [8]) (by kernel_rfl) (by simp) ?_; refine AllReadyH.cons rfl (fun K hK => ?_) AllReadyH.nil; go_simp
      refine (lawOf_any x _).mono ?_
      rintro e w1 ⟨rfl, hb1⟩
      have HB1 := Lib.hid (Ext.trans (by (repeat' (with_reducible first | exact HB.out | exact Below.refl _ _ | refine Ext.drewN ?_ _ | refine Below.drew ?_ | refine Below.setCell ?_ ?_ _ | refine Below.alloc ?_ ?_ _)) <;> (first | omega | (simp; done) | (simp; omega)) : Ext w _) hb1)
      clear hb1
      (try dsimp only)
      (try go_simp)
      refine hK.out _ _ (HKS.out _ HB1.out) (fun hHeld => ?_)
      clear hK K
      (try simp only [Act.put, List.setIfInBounds_toArray, List.set_cons_zero, List.set_cons_succ])
      refine' wpAnyH_take (i := 9) (oi := ?zoi9a) (v := ?zv9a) ?zhi9a (by kernel_rfl) (by kernel_rfl) (by kernel_rfl) ?zhQ9a (Or.inl ⟨?zhw9a, ?zhy9a⟩) (by assumption) ?zrest9a; (case zhi9a => simp only [List.getElem?_toArray, List.getElem?_cons_succ, List.getElem?_cons_zero]; exact rfl); (case zhQ9a => exact fun _ _ _ h => h); (case zhw9a => rfl); (case zhy9a => intro w hSw; (try dsimp only at hSw); go_simp; (try with_reducible rfl)); (try simp only [Act.put, List.setIfInBounds_toArray, List.set_cons_zero, List.set_cons_succ])
      refine wpAnyH_done (by kernel_rfl) ?_ _
      go_wp2_with fail
      go_roundw
      case measure => simp [intOf]; omega
      case rel => exact ⟨k + 1, by omega, by go_num, HB1.out⟩
    · obtain rfl : k = xs.length := by omega
      have hd : decide ((xs.length : Int) < (xs.length : Int)) = false := by simp
      go_wp2_with fail
      go_ret
      exact ⟨rfl, HB.out⟩
set_option maxRecDepth 100000 in
set_option maxHeartbeats 4000000 in
theorem eventOf_any (HA : Awake26) (V : Value) (xs : List OpD) (m : Int) (w : World) (hs : Sl w 11 ROp V xs) (hm : w.cell? ⟨0, 0, none⟩ = some (.int .i64 m)) :
    Calls Tryd.prog 3 #[V] w fun e w' => e = .returned (.bool true) ∧ Ext w w' := by
  have hw0 : 0 < w.heap.size := World.block_lt_of_cell? _ _ hm
  have HM : Hid (∀ W, Ext w W → W.cell? ⟨0, 0, none⟩ = some (.int .i64 m)) := fun W h => (h.cell (p := ⟨0, 0, none⟩) hw0).trans hm
  have HAH := Lib.hid HA
  have HS := Lib.hid hs
  obtain ⟨A, c, rfl⟩ := hs.form
  obtain ⟨_, hc1, hc2, hA⟩ := hs.at
  clear hm HA hs hA
  by_cases hbig : 100 < xs.length
  · have q1 : decide (100 < (xs.length : Int)) = true := decide_eq_true (by omega)
    clear hbig
    go_enter Tryd.func3, Tryd.ntmps3
    go_wp2_with fail
    refine (HAH.out m _ (HM.out _ (by (repeat' (with_reducible first | exact Below.refl _ _ | refine Ext.drewN ?_ _ | refine Below.drew ?_ | refine Below.setCell ?_ ?_ _ | refine Below.alloc ?_ ?_ _)) <;> (first | omega | (simp; done) | (simp; omega))))).mono ?_
    rintro e w1 ⟨rfl, hb⟩
    go_wp2_with fail
    go_ret
    exact ⟨rfl, hb⟩
  · have q1 : decide (100 < (xs.length : Int)) = false := decide_eq_false (by omega)
    have hlen : xs.length ≤ 100 := by omega
    clear hbig
    go_enter Tryd.func3, Tryd.ntmps3
    go_wp2_with fail
    refine (of_any _ xs _ HS.out (by omega)).mono ?_
    rintro e w1 ⟨⟨V1, es, rfl, hst, ho1⟩, hb1⟩
    have HES : Hid (es = refOfL xs) := stableOf_eq hst
    have S1 := Lib.hid (ho1.sl (R := REv) ev_len (fun _ => rfl))
    have B1 := Lib.hid hb1
    obtain ⟨A1, c1, rfl⟩ := S1.out.form
    clear hst ho1 hb1
    go_wp2_with fail
    refine (refOf_any _ xs _ (HS.out.ext B1.out) (by omega)).mono ?_
    rintro e w2 ⟨⟨V2, rfl, hs2⟩, hb2⟩
    rw [← HES.out] at hs2
    obtain ⟨A2, c2, rfl⟩ := hs2.form
    have S2 := Lib.hid hs2
    have S1 := Lib.hid (S1.out.ext hb2)
    have B1 := Lib.hid (Ext.trans B1.out hb2)
    clear hs2 hb2
    go_wp2_with fail
    refine (lawSame_any _ _ es _ (S1.out.ext (by (repeat' (with_reducible first | exact Below.refl _ _ | refine Ext.drewN ?_ _ | refine Below.drew ?_ | refine Below.setCell ?_ ?_ _ | refine Below.alloc ?_ ?_ _)) <;> (first | omega | (simp; done) | (simp; omega)))) (S2.out.ext (by (repeat' (with_reducible first | exact Below.refl _ _ | refine Ext.drewN ?_ _ | refine Below.drew ?_ | refine Below.setCell ?_ ?_ _ | refine Below.alloc ?_ ?_ _)) <;> (first | omega | (simp; done) | (simp; omega))))).mono ?_
    rintro e w3 ⟨rfl, hb3⟩
    have B1 := Lib.hid (Ext.trans B1.out hb3)
    clear hb3
    go_wp2_with fail
    refine (HAH.out m _ (HM.out _ (by (repeat' (with_reducible first | exact B1.out | exact Below.refl _ _ | refine Ext.drewN ?_ _ | refine Below.drew ?_ | refine Below.setCell ?_ ?_ _ | refine Below.alloc ?_ ?_ _)) <;> (first | omega | (simp; done) | (simp; omega))))).mono ?_
    rintro e w4 ⟨rfl, hb4⟩
    have B1 := Lib.hid (Ext.trans B1.out hb4)
    clear hb4
    go_wp2_with fail
    go_ret
    exact ⟨rfl, by (repeat' (with_reducible first | exact B1.out | exact Below.refl _ _ | refine Ext.drewN ?_ _ | refine Below.drew ?_ | refine Below.setCell ?_ ?_ _ | refine Below.alloc ?_ ?_ _)) <;> (first | omega | (simp; done) | (simp; omega))⟩
end Go.Proofs.YtgpnockjonicpaaDoor
