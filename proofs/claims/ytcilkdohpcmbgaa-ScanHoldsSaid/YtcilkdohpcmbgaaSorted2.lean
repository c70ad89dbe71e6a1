/- find.Sorted's comparison: the closure. Conditions: that the query's box can be read. -/
import Derived.Test.YtcilkdohpcmbgaaSorted1
namespace Go.Proofs.Ytcilkdohpcmbgaa
set_option linter.unusedSimpArgs false
set_option linter.unusedVariables false
open Go.RowKit Go.Sort Go.Shelf Go.Proofs

set_option maxRecDepth 100000 in
set_option maxHeartbeats 2000000 in
theorem sortedClo_any (a b : OpD) (qb : Nat) (ord : ByteArray) (down : Bool) (w : World) (h5 : w.cell? ⟨qb, 5, none⟩ = some (.string ord)) (h6 : w.cell? ⟨qb, 6, none⟩ = some (.bool down)) :
    Calls Try.prog 47 #[.agg a.cells.toArray, .agg b.cells.toArray, .pointer (some ⟨qb, 0, none⟩)] w fun e w' => e = .returned (.int .i64 (cmpO ord down a b)) ∧ Grew w w' := by
  show Calls Try.prog 47 #[.agg #[.int .i64 a.id, .int .i64 a.proc, .int .i64 a.object, .int .i64 a.kind, .int .i64 a.method, .int .i64 a.arg, .int .i64 a.second, .bool a.done, .int .i64 a.result, .int .i64 a.invoke, .int .i64 a.ret], .agg #[.int .i64 b.id, .int .i64 b.proc, .int .i64 b.object, .int .i64 b.kind, .int .i64 b.method, .int .i64 b.arg, .int .i64 b.second, .bool b.done, .int .i64 b.result, .int .i64 b.invoke, .int .i64 b.ret], .pointer (some ⟨qb, 0, none⟩)] w _
  obtain ⟨x, hx⟩ : ∃ x, fieldI ord a = x := ⟨_, rfl⟩
  obtain ⟨y, hy⟩ : ∃ y, fieldI ord b = y := ⟨_, rfl⟩
  have HX : Hid ((valueL a ord).getD 0 = x) := hx
  have HY : Hid ((valueL b ord).getD 0 = y) := hy
  have hqb := World.block_lt_of_cell? _ _ h5
  simp only [] at hqb
  have hqb1 : qb < w.heap.size + 1 := by omega
  have hqb2 : qb < w.heap.size + 1 + 1 := by omega
  have hqb3 : qb < w.heap.size + 1 + 1 + 1 := by omega
  have HKS : Hid (∀ W : World, Ext ((w.alloc (.cells #[.int .i64 a.id, .int .i64 a.proc, .int .i64 a.object, .int .i64 a.kind, .int .i64 a.method, .int .i64 a.arg, .int .i64 a.second, .bool a.done, .int .i64 a.result, .int .i64 a.invoke, .int .i64 a.ret] 58)).alloc (.cells #[.int .i64 b.id, .int .i64 b.proc, .int .i64 b.object, .int .i64 b.kind, .int .i64 b.method, .int .i64 b.arg, .int .i64 b.second, .bool b.done, .int .i64 b.result, .int .i64 b.invoke, .int .i64 b.ret] 58)) W → W.cell? ⟨w.heap.size, 0, none⟩ = some (.int .i64 a.id) ∧ W.cell? ⟨w.heap.size + 1, 0, none⟩ = some (.int .i64 b.id)) :=
    fun W hb => ⟨by rw [hb.cell (by first | (simp; done) | (simp; omega) | omega)]; go_simp, by rw [hb.cell (by first | (simp; done) | (simp; omega) | omega)]; go_simp⟩
  cases down with
  | false =>
    have HG : Hid (cmpO ord false a b = orI (cmpI x y) (cmpI a.id b.id)) := by unfold Hid cmpO; rw [hx, hy]; rfl
    clear hx hy
    go_enter Try.func47, Try.ntmps47
    go_wp2_with fail
    refine (findValueG_any a ord _).mono ?_
    rintro e w1 ⟨rfl, rfl⟩
    rw [HX.out]
    generalize (valueL a ord).isSome = okx
    go_wp2_with fail
    refine (findValueG_any b ord _).mono ?_
    rintro e w1 ⟨rfl, rfl⟩
    rw [HY.out]
    generalize (valueL b ord).isSome = oky
    go_wp2_with fail
    go_region_held3 (fun w' => w'.cell? ⟨w.heap.size, 0, none⟩ = some (.int .i64 a.id) ∧ w'.cell? ⟨w.heap.size + 1, 0, none⟩ = some (.int .i64 b.id)) (first | (refine HKS.out _ ?_; ((repeat' (with_reducible first | exact Below.refl _ _ | refine Ext.drewN ?_ _ | refine Below.drew ?_ | refine Below.setCell ?_ ?_ _ | refine Below.alloc ?_ ?_ _)) <;> (first | omega | (simp; done) | (simp; omega))); done))
      (first
        | (go_at_call 50; refine (cmpCompare_any _ _ _).mono ?_; rintro e w' ⟨rfl, rfl⟩)
        | (go_at_call 49; refine (cmpOr_any _ 2 (cmpI x y) (cmpI a.id b.id) _ (by go_simp) (by go_simp)).mono ?_; rintro e w' ⟨rfl, rfl⟩))
    all_goals
      go_wp2_with fail
      go_ret
      refine ⟨by rw [HG.out]; rfl, ?_⟩
      repeat' (with_reducible first | exact Grew.refl _ | refine Grew.drew ?_ | refine Grew.drewN ?_ _ | refine Grew.alloc ?_ _)
  | true =>
    have HG : Hid (cmpO ord true a b = orI (cmpI y x) (cmpI a.id b.id)) := by unfold Hid cmpO; rw [hx, hy]; rfl
    clear hx hy
    go_enter Try.func47, Try.ntmps47
    go_wp2_with fail
    refine (findValueG_any a ord _).mono ?_
    rintro e w1 ⟨rfl, rfl⟩
    rw [HX.out]
    generalize (valueL a ord).isSome = okx
    go_wp2_with fail
    refine (findValueG_any b ord _).mono ?_
    rintro e w1 ⟨rfl, rfl⟩
    rw [HY.out]
    generalize (valueL b ord).isSome = oky
    go_wp2_with fail
    go_region_held3 (fun w' => w'.cell? ⟨w.heap.size, 0, none⟩ = some (.int .i64 a.id) ∧ w'.cell? ⟨w.heap.size + 1, 0, none⟩ = some (.int .i64 b.id)) (first | (refine HKS.out _ ?_; ((repeat' (with_reducible first | exact Below.refl _ _ | refine Ext.drewN ?_ _ | refine Below.drew ?_ | refine Below.setCell ?_ ?_ _ | refine Below.alloc ?_ ?_ _)) <;> (first | omega | (simp; done) | (simp; omega))); done))
      (first
        | (go_at_call 50; refine (cmpCompare_any _ _ _).mono ?_; rintro e w' ⟨rfl, rfl⟩)
        | (go_at_call 49; refine (cmpOr_any _ 2 (cmpI y x) (cmpI a.id b.id) _ (by go_simp) (by go_simp)).mono ?_; rintro e w' ⟨rfl, rfl⟩))
    all_goals
      go_wp2_with fail
      go_ret
      refine ⟨by rw [HG.out]; rfl, ?_⟩
      repeat' (with_reducible first | exact Grew.refl _ | refine Grew.drew ?_ | refine Grew.drewN ?_ _ | refine Grew.alloc ?_ _)
end Go.Proofs.Ytcilkdohpcmbgaa
