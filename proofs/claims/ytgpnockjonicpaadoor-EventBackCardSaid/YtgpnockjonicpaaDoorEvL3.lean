/- Plain Lean: the events of a history that may be are joined to it. No conditions. -/
import Derived.Test.YtgpnockjonicpaaDoorEvL2
namespace Go.Proofs.YtgpnockjonicpaaDoor
set_option linter.unusedSimpArgs false
set_option linter.unusedVariables false

theorem chk_open {o : OpD} (h : chkL o = 0) : chkL (opOf (invOf o)) = 0 := by
  unfold chkL at h ⊢
  by_cases h1 : (!betw o.id 1 1073741824 || !betw o.proc 0 1023 || !betw o.object 0 1023) = true
  · rw [if_pos h1] at h; exact absurd h (by decide)
  rw [if_neg h1] at h
  rw [if_neg (show ¬ (!betw (opOf (invOf o)).id 1 1073741824 || !betw (opOf (invOf o)).proc 0 1023 || !betw (opOf (invOf o)).object 0 1023) = true from h1)]
  show (match findRow o.kind o.method with | none => (33 : Int) | some r => chkRow (opOf (invOf o)) r.2.2.1 r.2.2.2) = 0
  cases hr : findRow o.kind o.method with
  | none => rw [hr] at h; exact absurd (show (33 : Int) = 0 from h) (by decide)
  | some r =>
    rw [hr] at h
    have h' : chkRow o r.2.2.1 r.2.2.2 = 0 := h
    clear h
    show chkRow (opOf (invOf o)) r.2.2.1 r.2.2.2 = 0
    unfold chkRow at h' ⊢
    by_cases h2 : (!betw o.arg 0 (if 1 ≤ r.2.2.1 then 1073741824 else 0) || !betw o.second 0 (if 2 ≤ r.2.2.1 then 1073741824 else 0)) = true
    · rw [if_pos h2] at h'; exact absurd h' (by decide)
    rw [if_neg h2] at h'
    rw [if_neg (show ¬ (!betw (opOf (invOf o)).arg 0 (if 1 ≤ r.2.2.1 then 1073741824 else 0) || !betw (opOf (invOf o)).second 0 (if 2 ≤ r.2.2.1 then 1073741824 else 0)) = true from h2)]
    by_cases h3 : (o.done && !ansB o.result r.2.2.2 || !o.done && o.result != 0) = true
    · rw [if_pos h3] at h'; exact absurd h' (by decide)
    rw [if_neg h3] at h'
    rw [if_neg (show ¬ ((opOf (invOf o)).done && !ansB (opOf (invOf o)).result r.2.2.2 || !(opOf (invOf o)).done && (opOf (invOf o)).result != 0) = true from by simp [opOf])]
    by_cases h4 : (!betw o.invoke 0 1099511627776 || !o.done && o.ret != 0) = true
    · rw [if_pos h4] at h'; exact absurd h' (by decide)
    have h5 : betw (opOf (invOf o)).invoke 0 1099511627776 = true := by
      show betw o.invoke 0 1099511627776 = true
      simp only [Bool.or_eq_true, not_or] at h4
      simpa using h4.1
    rw [if_neg (show ¬ (!betw (opOf (invOf o)).invoke 0 1099511627776 || !(opOf (invOf o)).done && (opOf (invOf o)).ret != 0) = true from by rw [h5]; simp [opOf])]
    rw [if_neg (show ¬ ((opOf (invOf o)).done && (decide ((opOf (invOf o)).ret ≤ (opOf (invOf o)).invoke) || decide (1099511627776 < (opOf (invOf o)).ret))) = true from by simp [opOf])]
theorem ahead_time {a b : EvD} (h : a.time < b.time) : aheadE a b = true := by
  unfold aheadE
  rw [if_neg (by omega)]
  exact decide_eq_true h
/-- what has been made of the events ahead -/
structure StOf (l : List OpD) (pre : List EvD) (S : List OpD) : Prop where
  ris : Ris S
  mem : ∀ o', o' ∈ S ↔ ∃ o ∈ l, invOf o ∈ pre ∧ o' = (if o.done = true ∧ ansOf o ∈ pre then o else opOf (invOf o))
theorem StOf.shape {l : List OpD} {pre : List EvD} {S : List OpD} (h : StOf l pre S) {o' : OpD} (ho : o' ∈ S) :
    ∃ o ∈ l, invOf o ∈ pre ∧ o'.id = o.id ∧ o'.proc = o.proc ∧ (o'.done = false → ¬ (o.done = true ∧ ansOf o ∈ pre)) ∧ (¬ (o.done = true ∧ ansOf o ∈ pre) → o' = opOf (invOf o)) := by
  obtain ⟨o, h1, h2, h3⟩ := (h.mem o').1 ho
  refine ⟨o, h1, h2, ?_⟩
  by_cases hc : o.done = true ∧ ansOf o ∈ pre
  · rw [if_pos hc] at h3
    subst h3
    exact ⟨rfl, rfl, (fun q => by rw [hc.1] at q; cases q), (fun q => absurd hc q)⟩
  · rw [if_neg hc] at h3
    subst h3
    exact ⟨rfl, rfl, fun _ => hc, fun _ => rfl⟩
theorem step_hist {l : List OpD} (H : HistOk l) {pre post S : List _} {x : EvD} (he : refOfL l = pre ++ x :: post) (hS : StOf l pre S) :
    (stepL S x).2 = 0 ∧ StOf l (pre ++ [x]) (stepL S x).1 := by
  have hup := refOfL_up H.ris
  have hm : ∀ y, y ∈ pre ++ x :: post ↔ y ∈ evsL l := fun y => by rw [← he]; exact (refOfL_perm l).mem_iff
  rw [he] at hup
  obtain ⟨_, hup2, hup3⟩ := List.pairwise_append.1 hup
  have hup4 := (List.pairwise_cons.1 hup2).1
  have D1 : ∀ y ∈ evsL l, aheadE y x = true → y ∈ pre := fun y hy h => by
    rcases List.mem_append.1 ((hm y).2 hy) with k | k
    · exact k
    · rcases List.mem_cons.1 k with rfl | k
      · rw [ahead_irrefl] at h; cases h
      · rw [ahead_asymm (hup4 y k)] at h; cases h
  have D2 : ∀ y ∈ evsL l, ∀ z ∈ pre, aheadE y z = true → y ∈ pre := fun y hy z hz h => by
    rcases List.mem_append.1 ((hm y).2 hy) with k | k
    · exact k
    · rw [ahead_asymm (hup3 z hz y k)] at h; cases h
  have D3 : ∀ y ∈ pre, aheadE y x = true := fun y hy => hup3 y hy x (by simp)
  have hxp : x ∉ pre := fun q => by have := D3 x q; rw [ahead_irrefl] at this; cases this
  have mi : ∀ o ∈ l, invOf o ∈ evsL l := fun o ho => mem_evsL.2 ⟨o, ho, .inl rfl⟩
  have ma : ∀ o ∈ l, o.done = true → ansOf o ∈ evsL l := fun o ho hd => mem_evsL.2 ⟨o, ho, .inr ⟨hd, rfl⟩⟩
  -- of two operations of one process one is wholly ahead
  have hb : ∀ o ∈ l, ∀ p ∈ l, o ≠ p → o.proc = p.proc → (o.done = true ∧ o.ret < p.invoke) ∨ (p.done = true ∧ p.ret < o.invoke) := fun o ho p hp hne hpr => by
    have hid : p.id ≠ o.id := fun q => hne (H.ris.inj ho hp q.symm)
    have h1 := H.bes o ho p hp hid
    unfold badProc beforeL at h1
    rw [hpr, beq_self_eq_true, Bool.true_and] at h1
    cases h2 : (p.done && decide (p.ret < o.invoke)) with
    | true => simp only [Bool.and_eq_true, decide_eq_true_eq] at h2; exact .inr h2
    | false =>
      rw [h2] at h1
      simp only [Bool.not_false, Bool.true_and, Bool.not_eq_false', Bool.and_eq_true, decide_eq_true_eq] at h1
      exact .inl h1
  obtain ⟨o, ho, hx⟩ := mem_evsL.1 ((hm x).1 (by simp))
  have hbo := op_bounds (H.chk o ho)
  rcases hx with rfl | ⟨hd, rfl⟩
  · -- an invocation
    have e0 : stepL S (invOf o) = stepInv S (invOf o) := by unfold stepL; rw [if_neg (by simp [invOf])]
    have e1 : getL S (invOf o).id = none := (getL_none _).2 fun o' ho' q => by
      obtain ⟨o2, h1, h2, h3, _⟩ := hS.shape ho'
      obtain rfl : o2 = o := H.ris.inj h1 ho (by rw [← h3, q]; rfl)
      exact hxp h2
    have e2 : ¬ 0 ≤ openL S (invOf o).proc := by
      have := (openAt_neg (invOf o).proc S 0).2 fun o' ho' q => by
        obtain ⟨o2, h1, h2, h3, h4, h5, _⟩ := hS.shape ho'
        have h6 := h5 q.2
        have hne : o2 ≠ o := fun q2 => hxp (by rw [← q2]; exact h2)
        rcases hb o2 h1 o ho hne (by rw [← h4, q.1]; rfl) with ⟨k1, k2⟩ | ⟨k1, k2⟩
        · exact h6 ⟨k1, D1 _ (ma o2 h1 k1) (ahead_time k2)⟩
        · have k3 := (hbo.ret k1).1
          have k4 := D3 _ h2
          rw [ahead_asymm (ahead_time (a := invOf o) (b := invOf o2) (by show o.invoke < o2.invoke; omega))] at k4
          cases k4
      unfold openL
      omega
    have e3 : stepInv S (invOf o) = (withL S (opOf (invOf o)), 0) := by
      unfold stepInv
      rw [if_neg (by rw [e1]; simp), if_neg e2]
      unfold invCode
      rw [chk_open (H.chk o ho), if_neg (by simp [invOf])]
    rw [e0, e3]
    have hans : ansOf o ∉ pre ∨ o.done = false := by
      cases hdn : o.done with
      | false => exact .inr rfl
      | true =>
        refine .inl fun q => ?_
        have k4 := D3 _ q
        rw [ahead_asymm (ahead_time (a := invOf o) (b := ansOf o) (hbo.ret hdn).1)] at k4
        cases k4
    have hnx : ∀ p : OpD, ansOf p ∈ pre ++ [invOf o] ↔ ansOf p ∈ pre := fun p => by
      rw [List.mem_append, List.mem_singleton]
      exact ⟨fun q => q.elim id (fun q => by have := congrArg EvD.answer q; exact absurd this (by simp [invOf, ansOf])), .inl⟩
    have hcf : ¬ (o.done = true ∧ ansOf o ∈ pre) := fun q => by rcases hans with k | k; exact k q.2; (rw [k] at q; exact absurd q.1 (by simp))
    refine ⟨rfl, withL_ris _ _ hS.ris, fun o' => ?_⟩
    rw [withL_mem hS.ris, hS.mem]
    constructor
    · rintro (rfl | ⟨⟨o3, h1, h2, h3⟩, h4⟩)
      · exact ⟨o, ho, by simp, by simp only [hnx]; rw [if_neg hcf]⟩
      · exact ⟨o3, h1, List.mem_append_left _ h2, by simp only [hnx]; exact h3⟩
    · rintro ⟨o3, h1, h2, h3⟩
      simp only [hnx] at h3
      rw [List.mem_append, List.mem_singleton] at h2
      rcases h2 with h2 | h2
      · refine .inr ⟨⟨o3, h1, h2, h3⟩, fun q => ?_⟩
        have hid : o'.id = o3.id := by rw [h3]; split <;> rfl
        obtain rfl : o3 = o := H.ris.inj h1 ho (by rw [← hid, q]; rfl)
        exact hxp h2
      · obtain rfl : o3 = o := H.ris.inj h1 ho (congrArg EvD.id h2)
        rw [if_neg hcf] at h3
        exact .inl h3
  · -- an answer
    have e0 : stepL S (ansOf o) = stepAns S (ansOf o) := by unfold stepL; rw [if_pos (by simp [ansOf])]
    have hinv : invOf o ∈ pre := D1 _ (mi o ho) (ahead_time (hbo.ret hd).1)
    have hcf : ¬ (o.done = true ∧ ansOf o ∈ pre) := fun q => hxp q.2
    have hin : opOf (invOf o) ∈ S := (hS.mem _).2 ⟨o, ho, hinv, by rw [if_neg hcf]⟩
    have one : ∀ o' ∈ S, o'.proc = o.proc → o'.done = false → o' = opOf (invOf o) := fun o' ho' hpr hdn => by
      obtain ⟨o2, h1, h2, h3, h4, h5, h6⟩ := hS.shape ho'
      by_cases hq : o2 = o
      · subst hq
        exact h6 (h5 hdn)
      · exfalso
        rcases hb o2 h1 o ho hq (by rw [← h4, hpr]) with ⟨k1, k2⟩ | ⟨k1, k2⟩
        · exact h5 hdn ⟨k1, D2 _ (ma o2 h1 k1) _ hinv (ahead_time k2)⟩
        · exact hxp (D2 _ (ma o ho hd) _ h2 (ahead_time k2))
    have e1 : stepAns S (ansOf o) = (withL S o, 0) := by
      rcases openL_range S (ansOf o).proc with k | ⟨j, k, hj⟩
      · exfalso
        have := (openAt_neg (ansOf o).proc S 0).1 (by unfold openL at k; omega) _ hin
        exact this ⟨rfl, rfl⟩
      · obtain ⟨o'', h1, h2, h3⟩ := openAt_hit (ansOf o).proc S 0 j (by rw [Nat.zero_add]; exact k)
        have h4 := one o'' (List.mem_of_getElem? h1) h2 h3
        unfold stepAns
        rw [k]
        show stepAt S (ansOf o) S[j]? = _
        rw [h1, h4]
        unfold stepAt
        simp only
        rw [if_pos (by rfl), if_neg (by simp [saysMore, ansOf])]
        have e5 : answered (opOf (invOf o)) (ansOf o) = o := by
          obtain ⟨x1, x2, x3, x4, x5, x6, x7, x8, x9, x10, x11⟩ := o
          simp only at hd
          subst hd
          rfl
        rw [e5, H.chk o ho]
    rw [e0, e1]
    have hnx : ∀ p ∈ l, p ≠ o → (ansOf p ∈ pre ++ [ansOf o] ↔ ansOf p ∈ pre) := fun p hp hne => by
      rw [List.mem_append, List.mem_singleton]
      exact ⟨fun q => q.elim id (fun q => absurd (H.ris.inj hp ho (congrArg EvD.id q)) hne), .inl⟩
    have hni : ∀ p : OpD, invOf p ∈ pre ++ [ansOf o] ↔ invOf p ∈ pre := fun p => by
      rw [List.mem_append, List.mem_singleton]
      exact ⟨fun q => q.elim id (fun q => by have := congrArg EvD.answer q; exact absurd this (by simp [invOf, ansOf])), .inl⟩
    refine ⟨rfl, withL_ris _ _ hS.ris, fun o' => ?_⟩
    rw [withL_mem hS.ris, hS.mem]
    constructor
    · rintro (rfl | ⟨⟨o3, h1, h2, h3⟩, h4⟩)
      · exact ⟨o', ho, (hni o').2 hinv, by rw [if_pos ⟨hd, by simp⟩]⟩
      · have hid : o'.id = o3.id := by rw [h3]; split <;> rfl
        have hne : o3 ≠ o := fun q => h4 (by rw [hid, q])
        exact ⟨o3, h1, (hni o3).2 h2, by simp only [hnx o3 h1 hne]; exact h3⟩
    · rintro ⟨o3, h1, h2, h3⟩
      rw [hni] at h2
      by_cases hq : o3 = o
      · subst hq
        rw [if_pos ⟨hd, by simp⟩] at h3
        exact .inl h3
      · simp only [hnx o3 h1 hq] at h3
        refine .inr ⟨⟨o3, h1, h2, h3⟩, fun q => hq (H.ris.inj h1 ho ?_)⟩
        have hid : o'.id = o3.id := by rw [h3]; split <;> rfl
        rw [← hid, q]
theorem joinFrom_hist {l : List OpD} (H : HistOk l) : ∀ (post pre : List EvD) (S : List OpD) (k : Nat) (p : Option EvD), refOfL l = pre ++ post → StOf l pre S → (∀ q, p = some q → ∀ x ∈ post, aheadE q x = true) →
    joinFrom k p S post = (l, k + post.length, 0)
  | [], pre, S, k, p, he, hS, _ => by
    have e : S = l := Ris.ext hS.ris H.ris fun o' => by
      rw [hS.mem]
      have hm : ∀ y, y ∈ pre ↔ y ∈ evsL l := fun y => by
        rw [List.append_nil] at he
        rw [← he]; exact (refOfL_perm l).mem_iff
      have hv : ∀ o ∈ l, (if o.done = true ∧ ansOf o ∈ pre then o else opOf (invOf o)) = o := fun o ho => by
        by_cases hd : o.done = true
        · rw [if_pos ⟨hd, (hm _).2 (mem_evsL.2 ⟨o, ho, .inr ⟨hd, rfl⟩⟩)⟩]
        · rw [if_neg (fun q => hd q.1)]
          have hd' : o.done = false := by simpa using hd
          have hb := (op_bounds (H.chk o ho)).none hd'
          obtain ⟨x1, x2, x3, x4, x5, x6, x7, x8, x9, x10, x11⟩ := o
          simp only at hb hd'
          obtain ⟨b1, b2⟩ := hb
          subst hd' b1 b2
          rfl
      constructor
      · rintro ⟨o, ho, _, h⟩
        rw [hv o ho] at h
        rw [h]; exact ho
      · intro ho
        exact ⟨o', ho, (hm _).2 (mem_evsL.2 ⟨o', ho, .inl rfl⟩), (hv o' ho).symm⟩
    rw [e]; rfl
  | x :: post, pre, S, k, p, he, hS, hp => by
    obtain ⟨s1, s2⟩ := step_hist H he hS
    have hup := refOfL_up H.ris
    rw [he] at hup
    have hup4 := (List.pairwise_cons.1 (List.pairwise_append.1 hup).2.1).1
    have ih := joinFrom_hist H post (pre ++ [x]) (stepL S x).1 (k + 1) (some x) (by rw [he]; simp) s2 (fun q hq y hy => by injection hq with hq; rw [← hq]; exact hup4 y hy)
    have hl : lateB p x = false := by
      cases p with
      | none => rfl
      | some q => simp only [lateB]; rw [hp q rfl x (by simp)]; rfl
    unfold joinFrom
    rw [if_neg (by rw [hl]; decide), if_neg (by simpa using s1), ih, List.length_cons]
    congr 2
    omega
theorem joinL_hist {l : List OpD} (h : histL l = 0) : joinL (refOfL l) = (l, (refOfL l).length, 0) := by
  unfold joinL
  rw [joinFrom_hist (hist_ok h) (refOfL l) [] [] 0 none rfl ⟨List.Pairwise.nil, fun o' => ⟨(fun q => by cases q), fun ⟨_, _, q, _⟩ => by cases q⟩⟩ (fun q hq => by cases hq)]
  unfold joinEnd
  simp only
  rw [if_neg (by decide), if_neg (by simpa using h)]
end Go.Proofs.YtgpnockjonicpaaDoor
