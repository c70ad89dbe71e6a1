/- scan.group: a list's numbers, counted in a map, ranged over and sorted: the list that the document defines. Conditions: fewer than 10^9 operations, numbers that an int holds. -/
import Derived.Test.YtcilkdohpcmbgaaGrp4
import Derived.Test.YtcilkdohpcmbgaaSort
import Derived.Maps.OwnOps
import Derived.Maps.RangeWalk
import Derived.Maps.Views
namespace Go.Proofs.Ytcilkdohpcmbgaa
set_option linter.unusedSimpArgs false
set_option linter.unusedVariables false
open Go.RowKit Go.Maps

/-- a map reads as how often each number stands in a list -/
structure CntD (D : DataW Unit) (vs : List Int) : Prop where
  isMap : Maps.IsMap D
  at0 : ∀ v, D.atKey (.int .i64 v) (.lit (.int .i64 0)) = .lit (.int .i64 (vs.count v))
  has : ∀ v, Maps.has D (.int .i64 v) = decide (0 < vs.count v)
theorem CntD.start : CntD (.map []) [] := ⟨isMap_empty, fun v => rfl, fun v => rfl⟩
theorem litInt_ne {a b : Int} (h : a ≠ b) : (Lit.int .i64 a) ≠ Lit.int .i64 b := fun e => h (by injection e)
theorem CntD.step {D : DataW Unit} {vs : List Int} (h : CntD D vs) (x c : Int) (hc : c = vs.count x) : CntD (D.put (.int .i64 x) (.lit (.int .i64 (c + 1)))) (vs ++ [x]) := by
  subst hc
  refine ⟨h.isMap.put _ _, fun v => ?_, fun v => ?_⟩
  · by_cases e : v = x
    · subst e
      rw [atKey_put_same h.isMap (show WideAt.IsKeyLit (Lit.int .i64 v) from trivial)]
      simp [List.count_append]
    · rw [atKey_put_other (litInt_ne e), h.at0 v]
      have e' : ¬ x = v := fun q => e q.symm
      simp [List.count_append, e']
  · by_cases e : v = x
    · subst e
      rw [has_put_same h.isMap (show WideAt.IsKeyLit (Lit.int .i64 v) from trivial)]
      simp [List.count_append]
    · rw [has_put_other (litInt_ne e), h.has v]
      have e' : ¬ x = v := fun q => e q.symm
      simp [List.count_append, e']
/-- what has been gathered while some numbers are still to come -/
structure Coll (vs : List Int) (left : Lit → Bool) (gs : List Grp) : Prop where
  nodup : (gs.map Grp.val).Nodup
  iff : ∀ g : Grp, g ∈ gs ↔ 0 < vs.count g.val ∧ left (.int .i64 g.val) = false ∧ g.cnt = (vs.count g.val : Int)
theorem Coll.start {D : DataW Unit} {vs : List Int} (h : CntD D vs) : Coll vs (Maps.has D) [] :=
  ⟨List.nodup_nil, fun g => ⟨fun q => absurd q (by simp), fun ⟨a, b, _⟩ => by rw [h.has, decide_eq_false_iff_not] at b; exact absurd a b⟩⟩
theorem Coll.step {D : DataW Unit} {vs : List Int} {left : Lit → Bool} {gs : List Grp} (h : Coll vs left gs) (hD : CntD D vs) (x c : Int) (hl : left (.int .i64 x) = true) (hat : ∀ zd, D.atKey (.int .i64 x) zd = .lit (.int .i64 c)) :
    Coll vs (fun z => left z && !z.sameKey (.int .i64 x)) (gs ++ [⟨x, c⟩]) := by
  have hc : c = (vs.count x : Int) := by
    have := (hat (.lit (.int .i64 0))).symm.trans (hD.at0 x)
    injection this with this
    injection this
  have hpos : 0 < vs.count x := by
    have h1 := hD.has x
    rw [has_true_of_atKey hat] at h1
    simpa using h1.symm
  have hnot : ∀ g ∈ gs, g.val ≠ x := fun g hg e => by
    have := ((h.iff g).1 hg).2.1
    rw [e, hl] at this
    cases this
  refine ⟨?_, fun g => ?_⟩
  · rw [List.map_append, List.nodup_append]
    refine ⟨h.nodup, by simp, fun a ha b hb => ?_⟩
    obtain ⟨g, hg, rfl⟩ := List.mem_map.1 ha
    simp only [List.map_cons, List.map_nil, List.mem_singleton] at hb
    rw [hb]; exact hnot g hg
  · rw [List.mem_append, List.mem_singleton, h.iff g]
    by_cases e : g.val = x
    · subst e
      have hs : (Lit.int .i64 g.val).sameKey (.int .i64 g.val) = true := by simp [Lit.sameKey]
      obtain ⟨a, b⟩ := g
      simp only [hl, hs] at *
      simp [hc, hpos]
    · have hs : (Lit.int .i64 g.val).sameKey (.int .i64 x) = false := sameKey_ne (litInt_ne e)
      have hne : ¬ g = ⟨x, c⟩ := fun q => e (by rw [q])
      simp [hs, hne]
theorem Coll.done {vs : List Int} {left : Lit → Bool} {gs : List Grp} (h : Coll vs left gs) (hl : ∀ kl, left kl = false) : (gs.map Grp.val).Nodup ∧ Counts (fun x => vs.count x) gs :=
  ⟨h.nodup, fun g => by rw [h.iff g, hl]; simp⟩
/-- what is sorted and counts so is the document's list -/
theorem sorted_groups {vs : List Int} {gs gs' : List Grp} (hn : (gs.map Grp.val).Nodup) (hc : Counts (fun x => vs.count x) gs) (hp : gs'.Perm gs) (hs : gs'.Pairwise (fun a b => a.val ≤ b.val)) : gs' = groupsL vs := by
  refine groupsL_unique vs gs' ?_ (fun g => by rw [hp.mem_iff]; exact hc g)
  have hn' : (gs'.map Grp.val).Nodup := (hp.map Grp.val).nodup_iff.2 hn
  have hn2 : gs'.Pairwise (fun a b => a.val ≠ b.val) := by
    have := hn'
    unfold List.Nodup at this
    rwa [List.pairwise_map] at this
  exact (hs.and hn2).imp fun {a b} h => by have := h.1; have := h.2; omega
end Go.Proofs.Ytcilkdohpcmbgaa
