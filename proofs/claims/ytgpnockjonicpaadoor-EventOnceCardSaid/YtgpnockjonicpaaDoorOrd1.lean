/- Plain Lean: what is sorted, equals in their order, is what comes of putting one by one in its place. No conditions. -/
import Derived.Test.YtgpnockjonicpaaDoorRefOf1
namespace Go.Proofs.YtgpnockjonicpaaDoor
set_option linter.unusedSimpArgs false
set_option linter.unusedVariables false
open Go.Sort

def ltE2 : EvD × Nat → EvD × Nat → Bool := lt2 (fun a b : EvD × Nat => decide (evCmp a.1 b.1 < 0)) (fun x => x.2)
def leE2 (a b : EvD × Nat) : Prop := ltE2 b a = false
theorem swoE2 : SWO ltE2 := lt2_swo (lt := fun a b : EvD × Nat => decide (evCmp a.1 b.1 < 0)) (tag := fun x => x.2) swoEv
theorem ltE2_right {x y : EvD × Nat} (h : x.2 < y.2) : ltE2 y x = aheadE y.1 x.1 := by
  unfold ltE2
  rw [lt2_right (lt := fun a b : EvD × Nat => decide (evCmp a.1 b.1 < 0)) (tag := fun x => x.2) h, ltE]
theorem putN_up (l : List EvD) (e : EvD) : ∀ n j, putN l e n ≤ j → j < n → aheadE e (l[j]?.getD default) = true
  | 0, j, _, h => by omega
  | n + 1, j, h1, h2 => by
    unfold putN at h1
    split at h1
    · rename_i hc
      by_cases e1 : j = n
      · subst e1; exact hc
      · exact putN_up l e n j h1 (by omega)
    · omega
theorem putN_stop (l : List EvD) (e : EvD) : ∀ n, putN l e n = 0 ∨ (0 < putN l e n ∧ aheadE e (l[putN l e n - 1]?.getD default) = false)
  | 0 => .inl rfl
  | n + 1 => by
    unfold putN
    split
    · exact putN_stop l e n
    · rename_i hc
      exact .inr ⟨by omega, by simpa using hc⟩
/-- a tagged list with one more in its place -/
def putT (ys : List (EvD × Nat)) (z : EvD × Nat) : List (EvD × Nat) := ys.take (putN (ys.map (fun x => x.1)) z.1 ys.length) ++ [z] ++ ys.drop (putN (ys.map (fun x => x.1)) z.1 ys.length)
theorem putT_map (ys : List (EvD × Nat)) (z : EvD × Nat) : (putT ys z).map (fun x => x.1) = putL (ys.map (fun x => x.1)) z.1 := by
  unfold putT putL
  simp [List.map_take, List.map_drop]
theorem putT_perm (ys : List (EvD × Nat)) (z : EvD × Nat) : (putT ys z).Perm (ys ++ [z]) := by
  unfold putT
  have h := List.take_append_drop (putN (ys.map (fun x => x.1)) z.1 ys.length) ys
  generalize putN (ys.map (fun x => x.1)) z.1 ys.length = n at *
  conv => rhs; rw [← h]
  rw [List.append_assoc, List.append_assoc]
  exact List.Perm.append_left _ List.perm_append_comm
theorem putT_sorted {ys : List (EvD × Nat)} {z : EvD × Nat} (hs : ys.Pairwise leE2) (ht : ∀ y ∈ ys, y.2 < z.2) : (putT ys z).Pairwise leE2 := by
  have hn := putN_le (ys.map (fun x => x.1)) z.1 ys.length
  have hup := putN_up (ys.map (fun x => x.1)) z.1 ys.length
  have hst := putN_stop (ys.map (fun x => x.1)) z.1 ys.length
  unfold putT
  generalize putN (ys.map (fun x => x.1)) z.1 ys.length = n at *
  have hg : ∀ j (hj : j < ys.length), (ys.map (fun x => x.1))[j]?.getD default = ys[j].1 := fun j hj => by simp [hj]
  have hord := List.pairwise_iff_getElem.1 hs
  have hA : ∀ y ∈ ys.take n, leE2 y z := by
    intro y hy
    obtain ⟨j, hj, rfl⟩ := List.mem_iff_getElem.1 hy
    rw [List.length_take] at hj
    rw [List.getElem_take]
    rcases hst with h0 | ⟨h0, h1⟩
    · omega
    · rw [hg (n - 1) (by omega)] at h1
      have k1 : ltE2 z ys[n - 1] = false := by rw [ltE2_right (ht _ (List.getElem_mem _))]; exact h1
      by_cases e : j = n - 1
      · subst e; exact k1
      · exact swoE2.ntrans _ _ _ k1 (hord j (n - 1) (by omega) (by omega) (by omega))
  have hB : ∀ y ∈ ys.drop n, leE2 z y := by
    intro y hy
    obtain ⟨j, hj, rfl⟩ := List.mem_iff_getElem.1 hy
    rw [List.length_drop] at hj
    rw [List.getElem_drop]
    have h1 := hup (n + j) (by omega) (by omega)
    rw [hg (n + j) (by omega)] at h1
    have k1 : ltE2 z ys[n + j] = true := by rw [ltE2_right (ht _ (List.getElem_mem _))]; exact h1
    exact swoE2.asymmA k1
  have hC : ∀ x ∈ ys.take n, ∀ y ∈ ys.drop n, leE2 x y := by
    have := hs
    rw [← List.take_append_drop n ys, List.pairwise_append] at this
    exact this.2.2
  rw [List.append_assoc, List.pairwise_append]
  refine ⟨hs.sublist (List.take_sublist _ _), ?_, fun x hx y hy => ?_⟩
  · rw [List.singleton_append, List.pairwise_cons]
    exact ⟨hB, hs.sublist (List.drop_sublist _ _)⟩
  · rcases List.mem_append.1 hy with hy | hy
    · rw [List.mem_singleton.1 hy]; exact hA x hx
    · exact hC x hx y hy
theorem fold_putT : ∀ (es : List EvD) (n : Nat) (ys : List (EvD × Nat)), ys.Pairwise leE2 → (∀ y ∈ ys, y.2 < n) →
    ((es.zipIdx n).foldl putT ys).Pairwise leE2 ∧ ((es.zipIdx n).foldl putT ys).Perm (ys ++ es.zipIdx n) ∧ ((es.zipIdx n).foldl putT ys).map (fun x => x.1) = es.foldl putL (ys.map (fun x => x.1))
  | [], n, ys, h1, h2 => ⟨h1, by simp, rfl⟩
  | e :: r, n, ys, h1, h2 => by
    rw [List.zipIdx_cons, List.foldl_cons, List.foldl_cons]
    have hp := putT_perm ys (e, n)
    obtain ⟨a, b, c⟩ := fold_putT r (n + 1) (putT ys (e, n)) (putT_sorted h1 h2) (fun y hy => by
      rcases List.mem_append.1 (hp.mem_iff.1 hy) with h | h
      · have := h2 y h; omega
      · rw [List.mem_singleton.1 h]; simp)
    refine ⟨a, b.trans ?_, by rw [c, putT_map]⟩
    have := hp.append_right (r.zipIdx (n + 1))
    rw [List.append_assoc] at this
    exact this
theorem zipIdx_inj {es : List EvD} {a b : EvD × Nat} (ha : a ∈ es.zipIdx) (hb : b ∈ es.zipIdx) (h : a.2 = b.2) : a = b := by
  obtain ⟨x, i⟩ := a
  obtain ⟨y, j⟩ := b
  simp only at h
  subst h
  have h1 := List.mem_zipIdx_iff_getElem?.1 ha
  have h2 := List.mem_zipIdx_iff_getElem?.1 hb
  simp only at h1 h2
  rw [h1] at h2
  injection h2 with h2
  rw [h2]
theorem leE2_antisymm {es : List EvD} {a b : EvD × Nat} (ha : a ∈ es.zipIdx) (hb : b ∈ es.zipIdx) (h1 : leE2 a b) (h2 : leE2 b a) : a = b := by
  refine zipIdx_inj ha hb ?_
  unfold leE2 ltE2 lt2 at h1 h2
  simp only [Bool.or_eq_false_iff, Bool.and_eq_false_iff, Bool.not_eq_false', decide_eq_false_iff_not] at h1 h2
  obtain ⟨p1, p2⟩ := h1
  obtain ⟨q1, q2⟩ := h2
  rcases p2 with p2 | p2
  · simp only [decide_eq_true_eq] at p2; exact absurd p2 q1
  · rcases q2 with q2 | q2
    · simp only [decide_eq_true_eq] at q2; exact absurd q2 p1
    · omega
theorem stableOf_eq {es es' : List EvD} (h : StableOf es es') : es' = es.foldl putL [] := by
  obtain ⟨ys, hp, hs, rfl⟩ := h
  obtain ⟨a, b, c⟩ := fold_putT es 0 [] List.Pairwise.nil (fun y hy => by cases hy)
  have e : ys = (es.zipIdx 0).foldl putT [] := by
    refine List.Perm.eq_of_pairwise (le := leE2) (fun x y hx hy h1 h2 => ?_) hs a (hp.trans b.symm)
    exact leE2_antisymm (hp.mem_iff.1 hx) (by simpa using b.mem_iff.1 hy) h1 h2
  rw [e, c]
  rfl
end Go.Proofs.YtgpnockjonicpaaDoor
