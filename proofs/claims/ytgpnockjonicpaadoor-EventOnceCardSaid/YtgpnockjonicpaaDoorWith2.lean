/- ref12.With: a list of operations with an operation, in the place of one of its number. Conditions: fewer than 10^8 operations. -/
/- ref12.With's list: where the operation stands; numbers rise; the list that With makes of any operations. No program. -/
import Derived.Test.YtgpnockjonicpaaDoorOps2
namespace Go.Proofs.YtgpnockjonicpaaDoor
set_option linter.unusedSimpArgs false
set_option linter.unusedVariables false
open Go.RowKit

def withHead (o : OpD) (s : List OpD × Bool) (x : OpD) : List OpD × Bool := if s.2 = false ∧ o.id ≤ x.id then (s.1 ++ [o], true) else s
def withStep (o : OpD) (s : List OpD × Bool) (x : OpD) : List OpD × Bool := ((withHead o s x).1 ++ (if x.id = o.id then [] else [x]), (withHead o s x).2)
/-- a list with an operation -/
def withL (l : List OpD) (o : OpD) : List OpD := if (l.foldl (withStep o) ([], false)).2 then (l.foldl (withStep o) ([], false)).1 else (l.foldl (withStep o) ([], false)).1 ++ [o]
theorem with_take (l : List OpD) (o : OpD) (k : Nat) (h : k < l.length) : (l.take (k + 1)).foldl (withStep o) ([], false) = withStep o ((l.take k).foldl (withStep o) ([], false)) l[k] := by
  rw [List.take_succ_eq_append_getElem h, List.foldl_append]
  rfl
theorem withHead_len (o : OpD) (s : List OpD × Bool) (x : OpD) : (withHead o s x).1.length ≤ s.1.length + 1 := by
  unfold withHead
  split <;> simp
theorem with_len (l : List OpD) (o : OpD) (k : Nat) (h : k ≤ l.length) : ((l.take k).foldl (withStep o) ([], false)).1.length ≤ 2 * k := by
  induction k with
  | zero => simp
  | succ k ih =>
    rw [with_take l o k (by omega)]
    have := ih (by omega)
    generalize (l.take k).foldl (withStep o) ([], false) = s at *
    have := withHead_len o s l[k]
    unfold withStep
    split <;> simp <;> omega

end Go.Proofs.YtgpnockjonicpaaDoor
namespace Go.Proofs.YtgpnockjonicpaaDoor
set_option linter.unusedSimpArgs false
set_option linter.unusedVariables false
open Go.RowKit

theorem with_true (o : OpD) : ∀ (l acc : List OpD), l.foldl (withStep o) (acc, true) = (acc ++ l.filter (fun x => x.id != o.id), true)
  | [], acc => by simp
  | x :: r, acc => by
    have h : withStep o (acc, true) x = (acc ++ (if x.id = o.id then [] else [x]), true) := by simp [withStep, withHead]
    rw [List.foldl_cons, h, with_true o r]
    by_cases e : x.id = o.id
    · simp [e]
    · simp [e]
theorem with_false (o : OpD) : ∀ (l acc : List OpD), (let s := l.foldl (withStep o) (acc, false); if s.2 then s.1 else s.1 ++ [o]) = acc ++ l.takeWhile (fun x => decide (x.id < o.id)) ++ [o] ++ (l.dropWhile (fun x => decide (x.id < o.id))).filter (fun x => x.id != o.id)
  | [], acc => by simp
  | x :: r, acc => by
    by_cases h : x.id < o.id
    · have h1 : withStep o (acc, false) x = (acc ++ [x], false) := by
        have h2 : ¬ o.id ≤ x.id := by omega
        have h3 : ¬ x.id = o.id := by omega
        simp [withStep, withHead, h2, h3]
      rw [List.foldl_cons, h1, with_false o r (acc ++ [x])]
      simp [h]
    · have h2 : o.id ≤ x.id := by omega
      have h1 : withStep o (acc, false) x = ((acc ++ [o]) ++ (if x.id = o.id then [] else [x]), true) := by simp [withStep, withHead, h2]
      rw [List.foldl_cons, h1, with_true]
      by_cases e : x.id = o.id
      · simp [e]
      · simp [e, h]
theorem withL_eq (l : List OpD) (o : OpD) : withL l o = l.takeWhile (fun x => decide (x.id < o.id)) ++ [o] ++ (l.dropWhile (fun x => decide (x.id < o.id))).filter (fun x => x.id != o.id) := by
  have := with_false o l []
  simpa [withL] using this
theorem withL_len (l : List OpD) (o : OpD) : (withL l o).length ≤ l.length + 1 := by
  rw [withL_eq]
  have h1 := List.takeWhile_append_dropWhile (p := fun x : OpD => decide (x.id < o.id)) (l := l)
  have h2 := congrArg List.length h1
  have h3 := List.length_filter_le (fun x : OpD => x.id != o.id) (l.dropWhile (fun x => decide (x.id < o.id)))
  rw [List.length_append] at h2
  simp only [List.length_append, List.length_cons, List.length_nil]
  omega
/-- numbers rise -/
def Ris (l : List OpD) : Prop := l.Pairwise (fun a b => a.id < b.id)
theorem drop_ge (o : OpD) : ∀ l : List OpD, Ris l → ∀ x ∈ l.dropWhile (fun x => decide (x.id < o.id)), o.id ≤ x.id
  | [], _, x, hx => by simp at hx
  | y :: r, h, x, hx => by
    obtain ⟨hy, hr⟩ := List.pairwise_cons.1 h
    by_cases e : y.id < o.id
    · rw [List.dropWhile_cons_of_pos (by simpa using e)] at hx
      exact drop_ge o r hr x hx
    · rw [List.dropWhile_cons_of_neg (by simpa using e)] at hx
      rcases List.mem_cons.1 hx with rfl | hx
      · omega
      · have := hy x hx; omega
theorem withL_ris (l : List OpD) (o : OpD) (h : Ris l) : Ris (withL l o) := by
  rw [withL_eq]
  unfold Ris at *
  have ht : ∀ x ∈ l.takeWhile (fun x => decide (x.id < o.id)), x.id < o.id := fun x hx => by
    have := List.all_takeWhile (p := fun x : OpD => decide (x.id < o.id)) (l := l)
    simpa using (List.all_eq_true.1 this) x hx
  have hd : ∀ x ∈ (l.dropWhile (fun x => decide (x.id < o.id))).filter (fun x => x.id != o.id), o.id < x.id := fun x hx => by
    obtain ⟨h1, h2⟩ := List.mem_filter.1 hx
    have := drop_ge o l h x h1
    have h3 : x.id ≠ o.id := by simpa using h2
    omega
  refine List.pairwise_append.2 ⟨List.pairwise_append.2 ⟨h.sublist (List.takeWhile_sublist _), by simp, fun a ha b hb => ?_⟩, (h.sublist (List.dropWhile_sublist _)).filter _, fun a ha b hb => ?_⟩
  · simp at hb; subst hb; exact ht a ha
  · have h2 := hd b hb
    rcases List.mem_append.1 ha with ha | ha
    · have := ht a ha; omega
    · simp at ha; subst ha; exact h2
/-- the list that With makes of operations -/
def onceL (l : List OpD) : List OpD := l.foldl withL []
theorem once_take (l : List OpD) (k : Nat) (h : k < l.length) : onceL (l.take (k + 1)) = withL (onceL (l.take k)) l[k] := by
  unfold onceL
  rw [List.take_succ_eq_append_getElem h, List.foldl_append]
  rfl
theorem once_len (l : List OpD) (k : Nat) (h : k ≤ l.length) : (onceL (l.take k)).length ≤ k := by
  induction k with
  | zero => simp [onceL]
  | succ k ih =>
    rw [once_take l k (by omega)]
    have := ih (by omega)
    have := withL_len (onceL (l.take k)) l[k]
    omega
theorem once_ris (l : List OpD) : Ris (onceL l) := by
  have h : ∀ (l acc : List OpD), Ris acc → Ris (l.foldl withL acc) := by
    intro l
    induction l with
    | nil => intro acc h; exact h
    | cons x r ih => intro acc h; exact ih _ (withL_ris acc x h)
  exact h l [] List.Pairwise.nil
theorem Ris.nodup {l : List OpD} (h : Ris l) : (l.map OpD.id).Nodup := by
  rw [List.nodup_iff_pairwise_ne, List.pairwise_map]
  exact h.imp (fun h => by omega)
end Go.Proofs.YtgpnockjonicpaaDoor
