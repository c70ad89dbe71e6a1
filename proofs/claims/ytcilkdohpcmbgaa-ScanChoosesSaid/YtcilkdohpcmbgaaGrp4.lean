/- Plain: a list's numbers counted are one list, whichever way they are counted. No program in sight. -/
import Derived.Test.YtcilkdohpcmbgaaGrp
namespace Go.Proofs.Ytcilkdohpcmbgaa
set_option linter.unusedSimpArgs false
set_option linter.unusedVariables false
open Go.RowKit

abbrev Ris (gs : List Grp) : Prop := gs.Pairwise (fun a b => a.val < b.val)
theorem Ris.rising {gs : List Grp} (h : Ris gs) : Rising gs := fun i j hi hj hij => List.pairwise_iff_getElem.1 h i j hi hj hij
theorem mem_insG (v : Int) : ∀ (gs : List Grp) (x : Grp), x ∈ insG v gs → x.val = v ∨ x ∈ gs
  | [], x, h => by simp [insG] at h; exact .inl (by rw [h])
  | g :: r, x, h => by
    simp only [insG] at h
    split at h
    · rcases List.mem_cons.1 h with rfl | h
      · exact .inr (by simp)
      · rcases mem_insG v r x h with h | h
        · exact .inl h
        · exact .inr (by simp [h])
    · split at h
      · rcases List.mem_cons.1 h with rfl | h
        · exact .inl rfl
        · exact .inr (by simp [h])
      · rcases List.mem_cons.1 h with rfl | h
        · exact .inl rfl
        · exact .inr h
theorem insG_ris (v : Int) : ∀ gs : List Grp, Ris gs → Ris (insG v gs)
  | [], _ => by simp [insG, Ris]
  | g :: r, h => by
    have h1 := List.pairwise_cons.1 h
    simp only [insG]
    split
    · rename_i hl
      refine List.pairwise_cons.2 ⟨fun x hx => ?_, insG_ris v r h1.2⟩
      rcases mem_insG v r x hx with e | e
      · rw [e]; exact hl
      · exact h1.1 x e
    · split
      · rename_i hl he
        refine List.pairwise_cons.2 ⟨fun x hx => ?_, h1.2⟩
        have := h1.1 x hx
        simp only
        omega
      · rename_i hl he
        refine List.pairwise_cons.2 ⟨fun x hx => ?_, h⟩
        simp only
        rcases List.mem_cons.1 hx with rfl | hx
        · omega
        · have := h1.1 x hx; omega
theorem groupsL_ris (vs : List Int) : Ris (groupsL vs) := by
  have h : ∀ (vs : List Int) (gs : List Grp), Ris gs → Ris (vs.foldl (fun gs v => insG v gs) gs) := by
    intro vs
    induction vs with
    | nil => intro gs h; exact h
    | cons v r ih => intro gs h; exact ih _ (insG_ris v gs h)
  exact h vs [] List.Pairwise.nil
/-- two rising lists of the same groups are one -/
theorem ris_ext : ∀ (a b : List Grp), Ris a → Ris b → (∀ g, g ∈ a ↔ g ∈ b) → a = b
  | [], [], _, _, _ => rfl
  | [], y :: s, _, _, h => by have := (h y).2 (by simp); simp at this
  | x :: r, [], _, _, h => by have := (h x).1 (by simp); simp at this
  | x :: r, y :: s, ha, hb, h => by
    have h1 := List.pairwise_cons.1 ha
    have h2 := List.pairwise_cons.1 hb
    have e : x = y := by
      rcases List.mem_cons.1 ((h x).1 (by simp)) with e | e
      · exact e
      · rcases List.mem_cons.1 ((h y).2 (by simp)) with e' | e'
        · exact e'.symm
        · have := h2.1 x e; have := h1.1 y e'; omega
    subst e
    congr 1
    refine ris_ext r s h1.2 h2.2 (fun g => ⟨fun hg => ?_, fun hg => ?_⟩)
    · rcases List.mem_cons.1 ((h g).1 (by simp [hg])) with e | e
      · subst e; have := h1.1 g hg; omega
      · exact e
    · rcases List.mem_cons.1 ((h g).2 (by simp [hg])) with e | e
      · subst e; have := h2.1 g hg; omega
      · exact e
/-- how many are in a list -/
theorem mem_insG_iff (v : Int) : ∀ (gs : List Grp), Ris gs → ∀ g, g ∈ insG v gs ↔ (g.val ≠ v ∧ g ∈ gs) ∨ (g.val = v ∧ g.cnt = cntL v gs + 1)
  | [], _, g => by
    obtain ⟨a, b⟩ := g
    simp [insG, cntL]
  | x :: r, h, g => by
    have h1 := List.pairwise_cons.1 h
    have ih := mem_insG_iff v r h1.2 g
    obtain ⟨a, b⟩ := g
    simp only [insG]
    split
    · rename_i hl
      have hne : x.val ≠ v := by omega
      simp only [List.mem_cons, ih, cntL, if_neg hne]
      constructor
      · rintro (rfl | h | h)
        · exact .inl ⟨hne, .inl rfl⟩
        · exact .inl ⟨h.1, .inr h.2⟩
        · exact .inr h
      · rintro (⟨h, rfl | h'⟩ | h)
        · exact .inl rfl
        · exact .inr (.inl ⟨h, h'⟩)
        · exact .inr (.inr h)
    · have nov : ∀ y ∈ r, y.val ≠ v := fun y hy => by have := h1.1 y hy; omega
      split
      · rename_i hl he
        simp only [List.mem_cons, cntL, if_pos he]
        constructor
        · rintro (h | h)
          · injection h with e1 e2; exact .inr ⟨e1, e2⟩
          · exact .inl ⟨nov _ h, .inr h⟩
        · rintro (⟨hn, rfl | h'⟩ | ⟨e1, e2⟩)
          · exact absurd he hn
          · exact .inr h'
          · exact .inl (by cases e1; cases e2; rfl)
      · rename_i hl he
        have hz : cntL v r = 0 := cntL_miss v r (fun j hj => nov _ (List.getElem_mem hj))
        simp only [List.mem_cons, cntL, if_neg he, hz]
        constructor
        · rintro (h | rfl | h)
          · injection h with e1 e2; exact .inr ⟨e1, by simp [e2]⟩
          · exact .inl ⟨he, .inl rfl⟩
          · exact .inl ⟨nov _ h, .inr h⟩
        · rintro (⟨h, h' | h'⟩ | ⟨e1, e2⟩)
          · exact .inr (.inl h')
          · exact .inr (.inr h')
          · exact .inl (by cases e1; cases e2; rfl)
/-- of which numbers there are groups, and how many each tells -/
def Counts (C : Int → Nat) (gs : List Grp) : Prop := ∀ g : Grp, g ∈ gs ↔ 0 < C g.val ∧ g.cnt = (C g.val : Int)
theorem cntL_counts {C : Int → Nat} {gs : List Grp} (h : Counts C gs) (v : Int) : cntL v gs = (C v : Int) := by
  by_cases hz : 0 < C v
  · have hm := (h ⟨v, C v⟩).2 ⟨hz, rfl⟩
    have hit : ∀ gs : List Grp, (∀ g ∈ gs, g.cnt = (C g.val : Int)) → (⟨v, C v⟩ : Grp) ∈ gs → cntL v gs = (C v : Int) := by
      intro gs
      induction gs with
      | nil => intro _ h; simp at h
      | cons x r ih =>
        intro ha hm
        simp only [cntL]
        by_cases e : x.val = v
        · rw [if_pos e, ha x (by simp), e]
        · rw [if_neg e]
          rcases List.mem_cons.1 hm with e' | hm
          · exact absurd (by rw [← e']) e
          · exact ih (fun g hg => ha g (by simp [hg])) hm
    exact hit gs (fun g hg => ((h g).1 hg).2) hm
  · rw [cntL_miss v gs (fun j hj e => hz (by have := ((h gs[j]).1 (List.getElem_mem hj)).1; rwa [e] at this))]
    omega
theorem counts_insG {C : Int → Nat} {gs : List Grp} (hr : Ris gs) (h : Counts C gs) (v : Int) : Counts (fun x => C x + if x = v then 1 else 0) (insG v gs) := by
  intro g
  rw [mem_insG_iff v gs hr g, cntL_counts h v, h g]
  by_cases e : g.val = v
  · simp [e]
  · simp [e]
theorem groupsL_counts (vs : List Int) : Counts (fun x => vs.count x) (groupsL vs) := by
  have h : ∀ (vs : List Int) (C : Int → Nat) (gs : List Grp), Ris gs → Counts C gs → Counts (fun x => C x + vs.count x) (vs.foldl (fun gs v => insG v gs) gs) := by
    intro vs
    induction vs with
    | nil => intro C gs _ h; simpa using h
    | cons v r ih =>
      intro C gs hr h
      have := ih _ _ (insG_ris v gs hr) (counts_insG hr h v)
      intro g
      rw [List.foldl_cons, this g]
      simp only [List.count_cons]
      have e : (C g.val + (if g.val = v then 1 else 0) + List.count g.val r) = C g.val + (List.count g.val r + if (v == g.val) = true then 1 else 0) := by
        by_cases q : g.val = v
        · simp [q]; omega
        · have q' : ¬ v = g.val := fun z => q z.symm
          simp [q, q']
      rw [e]
  have := h vs (fun _ => 0) [] List.Pairwise.nil (fun g => by simp)
  unfold groupsL
  simpa using this
/-- whatever rises and counts so is that list -/
theorem groupsL_unique (vs : List Int) (gs : List Grp) (hr : Ris gs) (h : Counts (fun x => vs.count x) gs) : gs = groupsL vs :=
  ris_ext _ _ hr (groupsL_ris vs) (fun g => (h g).trans (groupsL_counts vs g).symm)
end Go.Proofs.Ytcilkdohpcmbgaa
