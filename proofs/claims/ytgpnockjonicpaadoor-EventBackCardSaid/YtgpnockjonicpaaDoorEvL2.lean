/- Plain Lean: a history's events rise; what is joined has just these events. No conditions. -/
import Derived.Test.YtgpnockjonicpaaDoorEvL1
import Derived.Test.YtgpnockjonicpaaDoorJoin7
namespace Go.Proofs.YtgpnockjonicpaaDoor
set_option linter.unusedSimpArgs false
set_option linter.unusedVariables false

theorem ahead_irrefl (a : EvD) : aheadE a a = false := by unfold aheadE; simp
theorem ahead_asymm {a b : EvD} (h : aheadE a b = true) : aheadE b a = false := by
  unfold aheadE at *
  cases h1 : a.answer <;> cases h2 : b.answer <;> simp only [h1, h2] at * <;> split at h <;> split <;> simp_all <;> omega
theorem ahead_key {a b : EvD} (h1 : aheadE a b = false) (h2 : aheadE b a = false) : a.time = b.time ∧ a.answer = b.answer ∧ a.id = b.id := by
  unfold aheadE at *
  cases h3 : a.answer <;> cases h4 : b.answer <;> simp only [h3, h4] at * <;> split at h1 <;> split at h2 <;> simp_all <;> omega
theorem ahead_trans {a b c : EvD} (h1 : aheadE a b = true) (h2 : aheadE b c = true) : aheadE a c = true := by
  unfold aheadE at *
  cases h3 : a.answer <;> cases h4 : b.answer <;> cases h5 : c.answer <;> simp only [h3, h4, h5] at * <;> split at h1 <;> split at h2 <;> split <;> simp_all <;> omega
theorem evs1_id {o : OpD} {x : EvD} (h : x ∈ evs1 o) : x.id = o.id := by
  unfold evs1 at h
  split at h
  · simp only [List.mem_cons, List.not_mem_nil, or_false] at h
    rcases h with rfl | rfl <;> rfl
  · rw [List.mem_singleton.1 h]; rfl
theorem evsL_nodup {l : List OpD} (h : Ris l) : (evsL l).Nodup := by
  unfold evsL List.Nodup
  rw [List.pairwise_flatMap]
  refine ⟨fun o _ => ?_, h.imp fun {a b} hab x hx y hy e => ?_⟩
  · unfold evs1
    split
    · refine List.pairwise_cons.2 ⟨fun y hy => ?_, List.pairwise_singleton _ _⟩
      rw [List.mem_singleton.1 hy]
      intro e
      have := congrArg EvD.answer e
      exact absurd this (by simp [invOf, ansOf])
    · exact List.pairwise_singleton _ _
  · have h1 := evs1_id hx
    have h2 := evs1_id hy
    rw [e] at h1
    omega
theorem key_eq {l : List OpD} (h : Ris l) {x y : EvD} (hx : x ∈ evsL l) (hy : y ∈ evsL l) (e1 : x.answer = y.answer) (e2 : x.id = y.id) : x = y := by
  obtain ⟨o, ho, hx⟩ := mem_evsL.1 hx
  obtain ⟨p, hp, hy⟩ := mem_evsL.1 hy
  have i1 : x.id = o.id := by rcases hx with rfl | ⟨_, rfl⟩ <;> rfl
  have i2 : y.id = p.id := by rcases hy with rfl | ⟨_, rfl⟩ <;> rfl
  obtain rfl : o = p := h.inj ho hp (by omega)
  rcases hx with rfl | ⟨_, rfl⟩ <;> rcases hy with rfl | ⟨_, rfl⟩
  · rfl
  · exact absurd e1 (by simp [invOf, ansOf])
  · exact absurd e1 (by simp [invOf, ansOf])
  · rfl
/-- rising -/
def Up (es : List EvD) : Prop := es.Pairwise (fun a b => aheadE a b = true)
theorem refOfL_up {l : List OpD} (h : Ris l) : Up (refOfL l) := by
  obtain ⟨a, _, c⟩ := fold_putT (evsL l) 0 [] List.Pairwise.nil (fun y hy => by cases hy)
  have h1 : (refOfL l).Pairwise (fun a b => aheadE b a = false) := by
    show ((evsL l).foldl putL []).Pairwise _
    rw [show ([] : List EvD) = ([] : List (EvD × Nat)).map (fun x => x.1) from rfl, ← c, List.pairwise_map]
    refine a.imp fun {x y} hxy => ?_
    unfold leE2 ltE2 lt2 at hxy
    simp only [Bool.or_eq_false_iff] at hxy
    rw [← ltE]
    exact hxy.1
  have h2 : (refOfL l).Nodup := (refOfL_perm l).nodup_iff.2 (evsL_nodup h)
  unfold List.Nodup at h2
  refine (h1.and h2).imp_of_mem fun {x y} hx hy hxy => ?_
  cases hq : aheadE x y with
  | true => rfl
  | false =>
    obtain ⟨k1, k2, k3⟩ := ahead_key hq hxy.1
    exact absurd (key_eq h ((refOfL_perm l).mem_iff.1 hx) ((refOfL_perm l).mem_iff.1 hy) k2 k3) hxy.2
theorem up_unique {a b : List EvD} (ha : Up a) (hb : Up b) (h : a.Perm b) : a = b :=
  List.Perm.eq_of_pairwise (le := fun x y => aheadE x y = true) (fun x y _ _ h1 h2 => by rw [ahead_asymm h1] at h2; cases h2) ha hb h

/-- what a step that may be makes of the events -/
theorem stepL_ok {l : List OpD} {x : EvD} (hr : Ris l) (h : (stepL l x).2 = 0) : Ris (stepL l x).1 ∧ (evsL (stepL l x).1).Perm (evsL l ++ [x]) := by
  unfold stepL at h ⊢
  by_cases ha : x.answer = true
  · rw [if_pos ha] at h ⊢
    unfold stepAns at h ⊢
    split at h
    · rename_i k hk
      cases ho : l[k]? with
      | none => rw [ho] at h; exfalso; simp [stepAt] at h
      | some o =>
        rw [ho] at h
        have hmem := List.mem_of_getElem? ho
        obtain ⟨o2, ho2, hproc, hdone⟩ := openAt_hit x.proc l 0 k (by rw [Nat.zero_add]; exact hk)
        rw [ho] at ho2
        injection ho2 with ho2
        subst ho2
        unfold stepAt at h ⊢
        simp only at h ⊢
        by_cases hid : o.id = x.id
        · rw [if_pos hid] at h ⊢
          by_cases hs : saysMore x = true
          · rw [if_pos hs] at h; (exfalso; simp at h)
          · rw [if_neg hs] at h ⊢
            have hra := withL_ris l (answered o x) hr
            refine ⟨hra, (List.perm_ext_iff_of_nodup (evsL_nodup hra) ?_).2 fun e => ?_⟩
            · rw [List.nodup_append]
              refine ⟨evsL_nodup hr, by simp, fun y hy z hz e => ?_⟩
              rw [List.mem_singleton.1 hz] at e
              obtain ⟨o3, ho3, hy⟩ := mem_evsL.1 hy
              rcases hy with rfl | ⟨hd, rfl⟩
              · rw [← e] at ha; exact absurd ha (by simp [invOf])
              · obtain rfl : o3 = o := hr.inj ho3 hmem (by rw [hid, ← e]; rfl)
                rw [hdone] at hd; cases hd
            · have hans : ansOf (answered o x) = x := by
                simp only [Bool.not_eq_true] at hs
                unfold saysMore at hs
                simp only [Bool.or_eq_false_iff, bne_eq_false_iff_eq] at hs
                obtain ⟨s1, s2, s3, s4, s5⟩ := hs
                obtain ⟨x1, x2, x3, x4, x5, x6, x7, x8, x9, x10⟩ := x
                simp only at *
                subst s1 s2 s3 s4 s5
                simp [ansOf, answered, hid, hproc, ha]
              rw [List.mem_append, List.mem_singleton, mem_evsL, mem_evsL]
              constructor
              · rintro ⟨o3, ho3, he⟩
                rcases (withL_mem hr _ _).1 ho3 with rfl | ⟨hm, _⟩
                · rcases he with rfl | ⟨_, rfl⟩
                  · exact .inl ⟨o, hmem, .inl rfl⟩
                  · exact .inr hans
                · exact .inl ⟨o3, hm, he⟩
              · rintro (⟨o3, ho3, he⟩ | rfl)
                · by_cases hq : o3.id = o.id
                  · obtain rfl : o3 = o := hr.inj ho3 hmem hq
                    refine ⟨_, (withL_mem hr _ _).2 (.inl rfl), .inl ?_⟩
                    rcases he with rfl | ⟨hd, _⟩
                    · rfl
                    · rw [hdone] at hd; cases hd
                  · exact ⟨o3, (withL_mem hr _ _).2 (.inr ⟨ho3, hq⟩), he⟩
                · exact ⟨_, (withL_mem hr _ _).2 (.inl rfl), .inr ⟨rfl, hans.symm⟩⟩
        · rw [if_neg hid] at h; (exfalso; simp at h)
    · (exfalso; simp at h)
  · have ha' : x.answer = false := by simpa using ha
    rw [if_neg ha] at h ⊢
    unfold stepInv at h ⊢
    by_cases h1 : (getL l x.id).isSome = true
    · rw [if_pos h1] at h; (exfalso; simp at h)
    · rw [if_neg h1] at h ⊢
      by_cases h2 : 0 ≤ openL l x.proc
      · rw [if_pos h2] at h; (exfalso; simp at h)
      · rw [if_neg h2] at h ⊢
        have hno := (getL_none (l := l) x.id).1 (by simpa using h1)
        have hres : x.result = 0 := by
          simp only [invCode] at h
          by_cases q : chkL (opOf x) = 0 ∧ x.result ≠ 0
          · rw [if_pos q] at h; (exfalso; simp at h)
          · rw [if_neg q] at h
            exact Decidable.byContradiction fun q2 => q ⟨h, q2⟩
        have hinv : invOf (opOf x) = x := by
          obtain ⟨x1, x2, x3, x4, x5, x6, x7, x8, x9, x10⟩ := x
          simp only at *
          subst hres ha'
          rfl
        have hra := withL_ris l (opOf x) hr
        refine ⟨hra, (List.perm_ext_iff_of_nodup (evsL_nodup hra) ?_).2 fun e => ?_⟩
        · rw [List.nodup_append]
          refine ⟨evsL_nodup hr, by simp, fun y hy z hz e => ?_⟩
          rw [List.mem_singleton.1 hz] at e
          obtain ⟨o3, ho3, hy⟩ := mem_evsL.1 hy
          refine hno o3 ho3 ?_
          rw [← e]
          rcases hy with rfl | ⟨_, rfl⟩ <;> rfl
        · rw [List.mem_append, List.mem_singleton, mem_evsL, mem_evsL]
          constructor
          · rintro ⟨o3, ho3, he⟩
            rcases (withL_mem hr _ _).1 ho3 with rfl | ⟨hm, _⟩
            · rcases he with rfl | ⟨hd, _⟩
              · exact .inr hinv
              · cases hd
            · exact .inl ⟨o3, hm, he⟩
          · rintro (⟨o3, ho3, he⟩ | rfl)
            · exact ⟨o3, (withL_mem hr _ _).2 (.inr ⟨ho3, hno o3 ho3⟩), he⟩
            · exact ⟨_, (withL_mem hr _ _).2 (.inl rfl), .inl hinv.symm⟩
theorem joinFrom_ok : ∀ (xs : List EvD) (k : Nat) (p : Option EvD) (l : List OpD), Ris l → (joinFrom k p l xs).2.2 = 0 →
    Ris (joinFrom k p l xs).1 ∧ (evsL (joinFrom k p l xs).1).Perm (evsL l ++ xs) ∧ Up xs ∧ (∀ q, p = some q → ∀ x ∈ xs, aheadE q x = true)
  | [], k, p, l, hr, h => ⟨hr, by simp [joinFrom], List.Pairwise.nil, fun q _ x hx => by cases hx⟩
  | x :: r, k, p, l, hr, h => by
    unfold joinFrom at h ⊢
    by_cases h1 : lateB p x = true
    · rw [if_pos h1] at h; (exfalso; simp at h)
    · rw [if_neg h1] at h ⊢
      by_cases h2 : (stepL l x).2 ≠ 0
      · rw [if_pos h2] at h; exact absurd h h2
      · rw [if_neg h2] at h ⊢
        obtain ⟨s1, s2⟩ := stepL_ok hr (by simpa using h2)
        obtain ⟨a, b, c, d⟩ := joinFrom_ok r (k + 1) (some x) (stepL l x).1 s1 h
        refine ⟨a, b.trans ?_, List.pairwise_cons.2 ⟨fun y hy => d x rfl y hy, c⟩, fun q hq y hy => ?_⟩
        · have := s2.append_right r
          rwa [List.append_assoc] at this
        · have hqx : aheadE q x = true := by
            subst hq
            simpa [lateB] using h1
          rcases List.mem_cons.1 hy with rfl | hy
          · exact hqx
          · exact ahead_trans hqx (d x rfl y hy)
/-- what is joined has just these events, in their order -/
theorem joinL_ok {xs : List EvD} (h : (joinL xs).2.2 = 0) : histL (joinL xs).1 = 0 ∧ refOfL (joinL xs).1 = xs := by
  unfold joinL joinEnd at h ⊢
  by_cases h1 : (joinFrom 0 none [] xs).2.2 ≠ 0
  · rw [if_pos h1] at h; exact absurd h h1
  · rw [if_neg h1] at h ⊢
    by_cases h2 : histL (joinFrom 0 none [] xs).1 ≠ 0
    · rw [if_pos h2] at h; exact absurd h h2
    · rw [if_neg h2]
      have h3 : histL (joinFrom 0 none [] xs).1 = 0 := by simpa using h2
      obtain ⟨a, b, c, _⟩ := joinFrom_ok xs 0 none [] List.Pairwise.nil (by simpa using h1)
      refine ⟨h3, up_unique (refOfL_up a) c ((refOfL_perm _).trans b)⟩
end Go.Proofs.YtgpnockjonicpaaDoor
