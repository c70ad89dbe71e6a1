/- slices.SortFunc at groups: sorted by their numbers. Conditions: fewer than 10^9. -/
import Derived.Test.YtcilkdohpcmbgaaGrp4
import Derived.Test.YtcilkdohpcmbgaaSort0
import Derived.Test.YtcilkdohpcmbgaaLaidG
import Derived.Shelf.SlSortCmp.NoneTotal

namespace Go.Proofs.Ytcilkdohpcmbgaa
set_option linter.unusedSimpArgs false
set_option linter.unusedVariables false
open Go.RowKit Go.Sort Go.Shelf Go.Proofs

instance : Inhabited Grp := ⟨⟨0, 0⟩⟩
theorem sortG_closure (a b : Grp) (W : World) : Calls Try.prog 52 #[.agg a.cells.toArray, .agg b.cells.toArray] W fun e w' => e = .returned (.int .i64 (cmpI a.val b.val)) ∧ ∃ q os', w' = grow (W.drewN q) os' := by
  obtain ⟨a1, a2⟩ := a
  obtain ⟨b1, b2⟩ := b
  show Calls Try.prog 52 #[.agg #[.int .i64 a1, .int .i64 a2], .agg #[.int .i64 b1, .int .i64 b2]] W _
  go_enter Try.func52, Try.ntmps52
  go_wp2_with (go_at_call 50; refine (cmpCompare_any _ _ _).mono ?_; rintro e w' ⟨rfl, rfl⟩)
  go_ret
  exact ⟨rfl, 0, _, by rw [alloc_eq_grow, alloc_eq_grow, grow_grow]; rfl⟩
theorem ltG (x y : Grp) : ltOf (fun x y : Grp => cmpI x.val y.val) x y = decide (x.val < y.val) := by
  unfold ltOf cmpI
  by_cases h1 : x.val < y.val
  · simp [h1]
  · by_cases h2 : y.val < x.val <;> simp [h1, h2]
theorem swoG : SWO (ltOf fun x y : Grp => cmpI x.val y.val) where
  irrefl x := by rw [ltG]; simp
  trans x y z h1 h2 := by rw [ltG] at *; simp at *; omega
  ntrans x y z h1 h2 := by rw [ltG] at *; simp at *; omega
theorem Try.isAggG : ∀ w, (isAgg (Try.laysSortG_ren.t 24)).run Try.prog w = .ok true w := fun w => by kernel_rfl
theorem Try.sizeOfG : ∀ w, (Go.sizeOf (Try.laysSortG_ren.t 24)).run Try.prog w = .ok 2 w := fun w => by kernel_rfl

theorem sortGroups_any (v : Value) (gs : List Grp) (base : Nat) (w : World) (h : w.ownsRow base 71 2 v gs.length (gs.flatMap Grp.cells)) (hn : gs.length ≤ 1000000000) :
    Calls Try.prog 51 #[v, .func (.func 52) #[] #[]] w fun e w' => e = .returned (.tuple #[]) ∧ (∃ gs' : List Grp, gs'.Perm gs ∧ gs'.Pairwise (fun a b => a.val ≤ b.val) ∧ Sl w' 2 RG v gs') ∧ w.grownBy w' v.ownBlock := by
  obtain ⟨A, c, rfl, hc1, hc2, hx⟩ := own_form h
  by_cases h0 : gs.length = 0
  · obtain rfl : gs = [] := List.eq_nil_of_length_eq_zero h0
    have hcon := AnyF.slices_SortFunc_none Try.laysSortG A c (.func (.func 52) #[] #[]) w
    change Calls Try.prog 51 _ _ _ at hcon
    refine hcon.mono ?_
    rintro e w' ⟨rfl, rfl⟩
    exact ⟨rfl, ⟨[], List.Perm.refl _, List.Pairwise.nil, ⟨A, c, rfl, by simp, by simpa [maxLen] using hc2, fun h => absurd h (by simp)⟩⟩, World.grownBy.refl _ _⟩
  · obtain ⟨g, rfl, _, hgl, _, _⟩ := hx (by omega)
    have eg : ∀ args w, (callFunc 52 args).run Try.prog w = .ok (.enter 52 args) w := enters_of Try.func52 (by kernel_rfl) rfl
    have hH := holdsK_of_own (enc := Grp.cells) (k := 2) (fun _ => rfl) h
    have hcon := AnyQ.slices_SortFunc Try.laysSortG 2 Try.isAggG Try.sizeOfG Grp.cells (fun _ => rfl) (fun x v hv => by simp [Grp.cells] at hv; rcases hv with rfl | rfl <;> rfl) (fun x y => cmpI x.val y.val) swoG 52 #[] g 0 c gs.toArray w eg (fun m os dk _ x y => sortG_closure x y _) hH hgl (by simp; omega)
    change Calls Try.prog 51 _ _ _ at hcon
    simp only [List.size_toArray] at hcon
    refine hcon.mono ?_
    rintro e w' ⟨rfl, d', n, os, hp, hs, rfl⟩
    have hds : d'.size = gs.length := by have := hp.1; simpa using this
    refine ⟨rfl, ⟨d'.toList, by simpa using permIn_perm (d := gs.toArray) (by simpa using hp), ?_, ?_⟩, grownBy_sortK d'⟩
    · refine (sortedIn_pairwise hds.symm hs).imp fun {a b} h => ?_
      rw [ltG] at h
      simpa using h
    · exact sl_of_holdsK (enc := Grp.cells) (k := 2) (R := RG) (fun _ => rfl) (fun _ => rfl) (holdsK_sortWorldK_c Grp.cells 2 w g 0 gs.toArray d' n os hH hgl (by simpa using hds)) hds.symm hc1 (by simpa [maxLen] using hc2) (by simp [sortWorldK, putRowK, putRow, mapBlock, grow, Sort.ahead]; omega)
end Go.Proofs.Ytcilkdohpcmbgaa
