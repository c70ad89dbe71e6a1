/- ref28.Groups: a list's numbers, counted, rising. Conditions: fewer than 10^9 operations. -/
import Derived.Test.YtcilkdohpcmbgaaScan3
import Derived.Test.YtcilkdohpcmbgaaOps
import Derived.Test.YtcilkdohpcmbgaaApp
namespace Go.Proofs.Ytcilkdohpcmbgaa
set_option linter.unusedSimpArgs false
set_option linter.unusedVariables false
open Go.RowKit

def insG (v : Int) : List Grp → List Grp
  | [] => [⟨v, 1⟩]
  | g :: r => if g.val < v then g :: insG v r else if g.val = v then ⟨v, g.cnt + 1⟩ :: r else ⟨v, 1⟩ :: g :: r
def groupsL (vs : List Int) : List Grp := vs.foldl (fun gs v => insG v gs) []
theorem groupsL_take (vs : List Int) (k : Nat) (h : k < vs.length) : groupsL (vs.take (k + 1)) = insG vs[k] (groupsL (vs.take k)) := by
  unfold groupsL
  rw [List.take_succ_eq_append_getElem h, List.foldl_append]
  rfl
theorem insG_at (v : Int) : ∀ (gs : List Grp) (p : Nat) (hp : p ≤ gs.length), (∀ j (hj : j < p), (gs[j]'(by omega)).val < v) →
    (∀ h : p < gs.length, ¬ gs[p].val < v) →
    insG v gs = gs.take p ++ (match gs.drop p with | [] => [⟨v, 1⟩] | g :: r => if g.val = v then ⟨v, g.cnt + 1⟩ :: r else ⟨v, 1⟩ :: g :: r)
  | [], p, hp, _, _ => by
    obtain rfl : p = 0 := by simpa using hp
    rfl
  | g :: r, 0, _, _, h2 => by
    have h : ¬ g.val < v := h2 (by simp)
    simp only [insG, List.take_zero, List.drop_zero, List.nil_append]
    rw [if_neg h]
  | g :: r, p + 1, hp, h1, h2 => by
    have h : g.val < v := h1 0 (by omega)
    simp only [insG]
    rw [if_pos h, insG_at v r p (by simpa using hp) (fun j hj => h1 (j + 1) (by omega)) (fun hh => h2 (by simpa using hh))]
    rfl
theorem insG_len (v : Int) : ∀ gs : List Grp, (insG v gs).length ≤ gs.length + 1
  | [] => by simp [insG]
  | g :: r => by
    have := insG_len v r
    simp only [insG]
    split
    · simp; omega
    · split <;> simp
theorem insG_cnt (v : Int) (k : Int) (hk : 0 ≤ k) : ∀ gs : List Grp, (∀ g ∈ gs, 1 ≤ g.cnt ∧ g.cnt ≤ k) → ∀ g ∈ insG v gs, 1 ≤ g.cnt ∧ g.cnt ≤ k + 1
  | [], _, g, hg => by
    simp [insG] at hg
    subst hg
    exact ⟨by simp, by simp; omega⟩
  | g :: r, h, x, hx => by
    have h0 := h g (by simp)
    simp only [insG] at hx
    split at hx
    · rcases List.mem_cons.1 hx with rfl | hx
      · exact ⟨h0.1, by omega⟩
      · exact insG_cnt v k hk r (fun y hy => h y (by simp [hy])) x hx
    · split at hx
      · rcases List.mem_cons.1 hx with rfl | hx
        · exact ⟨by simp; omega, by simp; omega⟩
        · have := h x (by simp [hx]); exact ⟨this.1, by omega⟩
      · rcases List.mem_cons.1 hx with rfl | hx
        · exact ⟨by simp, by simp; omega⟩
        · have := h x hx; exact ⟨this.1, by omega⟩

/-- a store into what the call itself has gathered -/
theorem own_set {w : World} {base sz n cap g : Nat} {e : TypeId} {cs : List Value} (h : w.ownsRow base e sz (.slice (some ⟨g, 0, none⟩) n cap) n cs) (j : Nat) (u : Value) :
    (w.setCell ⟨g, j, none⟩ u).ownsRow base e sz (.slice (some ⟨g, 0, none⟩) n cap) n (cs.set j u) := by
  refine ⟨by rw [List.length_set]; exact h.1, ?_⟩
  rcases h.2 with ⟨he, _⟩ | ⟨g', cap', cur, he, hb, hg, hc, hm, hs, ht⟩
  · cases he
  · injection he with e1 e2 e3
    injection e1 with e1
    injection e1 with e1
    subst e1 e3
    refine .inr ⟨g, cap, cur.setIfInBounds j u, rfl, hb, ?_, hc, hm, by simpa using hs, ?_⟩
    · simp [World.setCell, Array.getElem?_modify, hg]
    · rw [← ht, Array.toList_setIfInBounds, List.take_set]
theorem own_form {w : World} {base sz n : Nat} {e : TypeId} {v : Value} {cs : List Value} (h : w.ownsRow base e sz v n cs) : ∃ A c, v = .slice A n c ∧ n ≤ c ∧ c ≤ 9223372036854775807 ∧
    (0 < n → ∃ g, A = some ⟨g, 0, none⟩ ∧ base ≤ g ∧ g < w.heap.size ∧ (∀ i, w.frozen? ⟨g, i, none⟩ = false) ∧ ∀ j u, cs[j]? = some u → w.cell? ⟨g, j, none⟩ = some u) := by
  rcases h.2 with ⟨rfl, rfl⟩ | ⟨g, cap, cur, rfl, hb, hg, hc, hm, hs, ht⟩
  · exact ⟨none, 0, rfl, by omega, by omega, fun h => absurd h (by omega)⟩
  · refine ⟨_, cap, rfl, hc, by simpa [maxLen] using hm, fun _ => ⟨g, rfl, hb, (Array.getElem?_eq_some_iff.1 hg).1, fun i => by simp [World.frozen?, hg], fun j u hu => ?_⟩⟩
    have h1 := h.cells (g := g) rfl j u hu
    rwa [Addr.add_lit, Nat.zero_add] at h1

theorem flat_take {α : Type} (f : α → List Value) (xs : List α) (p j : Nat) (u : Value) (h : ((xs.take p).flatMap f)[j]? = some u) : (xs.flatMap f)[j]? = some u := by
  have e : xs.flatMap f = (xs.take p).flatMap f ++ (xs.drop p).flatMap f := by rw [← List.flatMap_append, List.take_append_drop]
  rw [e, List.getElem?_append_left (List.getElem?_eq_some_iff.1 h).1, h]
theorem flat_drop {α : Type} (f : α → List Value) (sz : Nat) (hf : ∀ x, (f x).length = sz) (xs : List α) (p j : Nat) (hp : p ≤ xs.length) (u : Value) (h : ((xs.drop p).flatMap f)[j]? = some u) : (xs.flatMap f)[p * sz + j]? = some u := by
  have e : xs.flatMap f = (xs.take p).flatMap f ++ (xs.drop p).flatMap f := by rw [← List.flatMap_append, List.take_append_drop]
  have hl : ((xs.take p).flatMap f).length = p * sz := by rw [flat_len f sz hf, List.length_take, Nat.min_eq_left hp]
  rw [e, List.getElem?_append_right (by omega), hl, ← h]
  congr 1
  omega
theorem flat_set {α : Type} (f : α → List Value) (sz : Nat) (hf : ∀ x, (f x).length = sz) : ∀ (xs : List α) (i : Nat) (x : α) (j : Nat) (u : Value) (y : α) (h : i < xs.length), xs[i] = x → j < sz → (f x).set j u = f y →
    (xs.flatMap f).set (i * sz + j) u = (xs.set i y).flatMap f
  | [], i, _, _, _, _, h, _, _, _ => absurd h (by simp)
  | a :: r, 0, x, j, u, y, _, e, hj, hy => by
    have e' : a = x := e
    subst e'
    rw [List.flatMap_cons, Nat.zero_mul, Nat.zero_add, List.set_append_left _ _ (by rw [hf]; exact hj), hy]
    rfl
  | a :: r, i + 1, x, j, u, y, h, e, hj, hy => by
    have h1 := flat_set f sz hf r i x j u y (by simpa using h) (by simpa using e) hj hy
    rw [List.flatMap_cons, List.set_append_right _ _ (by rw [hf]; simp [Nat.add_mul]; omega), hf, show (i + 1) * sz + j - sz = i * sz + j by rw [Nat.add_mul]; omega, h1]
    rfl
theorem Src.new (w : World) (t : TypeId) (cs : List Value) (m size : Nat) (h : cs.length = m * size) : Src (w.alloc (.cells cs.toArray t)) (some ⟨w.heap.size, 0, none⟩) m size cs :=
  ⟨h, fun _ => ⟨w.heap.size, 0, rfl, by simp, fun j u hu => by rw [Nat.zero_add, (Row1.made w t cs).cell j, hu]⟩⟩
theorem own_base {w : World} {base base' sz n : Nat} {e : TypeId} {v : Value} {cs : List Value} (h : w.ownsRow base e sz v n cs) (hb : base' ≤ base) : w.ownsRow base' e sz v n cs := by
  refine ⟨h.1, ?_⟩
  rcases h.2 with h | ⟨g, cap, cur, e1, e2, r⟩
  · exact .inl h
  · exact .inr ⟨g, cap, cur, e1, by omega, r⟩

end Go.Proofs.Ytcilkdohpcmbgaa
