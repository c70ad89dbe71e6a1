/- Histories that may be, plain Lean: what their operations' numbers may be, how long their lines are. No conditions. -/
import Derived.Test.YtgpnockjonicpaaDoorRefOf2
import Derived.Test.YtgpnockjonicpaaDoorOrd1
import Derived.Test.YtgpnockjonicpaaDoorPr1
namespace Go.Proofs.YtgpnockjonicpaaDoor
set_option linter.unusedSimpArgs false
set_option linter.unusedVariables false

structure HistOk (l : List OpD) : Prop where
  len : l.length ≤ 64
  chk : ∀ o ∈ l, chkL o = 0
  ris : Ris l
  bes : ∀ o ∈ l, ∀ p ∈ l, p.id ≠ o.id → badProc o p = false
theorem chkSeq_ok : ∀ (l : List OpD) (p : Option Int), chkSeq p l = 0 → (∀ o ∈ l, chkL o = 0) ∧ Ris l ∧ (∀ q, p = some q → ∀ o ∈ l, q < o.id)
  | [], p, _ => ⟨(fun o h => by cases h), List.Pairwise.nil, (fun q _ o h => by cases h)⟩
  | x :: r, p, h => by
    unfold chkSeq at h
    by_cases h1 : chkL x ≠ 0
    · rw [if_pos h1] at h
      exact absurd h h1
    · rw [if_neg h1] at h
      by_cases h2 : lowB p x = true
      · rw [if_pos h2] at h
        exact absurd h (by decide)
      · rw [if_neg h2] at h
        obtain ⟨a, b, c⟩ := chkSeq_ok r (some x.id) h
        have hx : chkL x = 0 := by simpa using h1
        have hlow : ∀ q, p = some q → q < x.id := fun q hq => by
          subst hq
          simp only [lowB, Bool.not_eq_true, decide_eq_false_iff_not] at h2
          omega
        refine ⟨fun o ho => ?_, List.pairwise_cons.2 ⟨fun o ho => c _ rfl o ho, b⟩, fun q hq o ho => ?_⟩
        · rcases List.mem_cons.1 ho with rfl | ho
          · exact hx
          · exact a o ho
        · rcases List.mem_cons.1 ho with rfl | ho
          · exact hlow q hq
          · have := hlow q hq
            have := c _ rfl o ho
            omega
theorem besSeq_ok (l : List OpD) : ∀ r : List OpD, besSeq l r = 0 → ∀ o ∈ r, besideL l o = 0
  | [], _, o, h => by cases h
  | x :: r, h, o, ho => by
    unfold besSeq at h
    by_cases h1 : besideL l x ≠ 0
    · rw [if_pos h1] at h
      exact absurd h h1
    · rw [if_neg h1] at h
      rcases List.mem_cons.1 ho with rfl | ho
      · simpa using h1
      · exact besSeq_ok l r h o ho
theorem hist_ok {l : List OpD} (h : histL l = 0) : HistOk l := by
  unfold histL at h
  by_cases h1 : 64 < l.length
  · rw [if_pos h1] at h
    exact absurd h (by decide)
  · rw [if_neg h1] at h
    by_cases h2 : chkSeq none l ≠ 0
    · rw [if_pos h2] at h
      exact absurd h h2
    · rw [if_neg h2] at h
      obtain ⟨a, b, _⟩ := chkSeq_ok l none (by simpa using h2)
      refine ⟨by omega, a, b, fun o ho p hp hne => ?_⟩
      have hb := besSeq_ok l l h o ho
      unfold besideL at hb
      by_cases h3 : (l.any fun p => p.id != o.id && badKind o p) = true
      · rw [if_pos h3] at hb
        exact absurd hb (by decide)
      · rw [if_neg h3] at hb
        by_cases h4 : (l.any fun p => p.id != o.id && badProc o p) = true
        · rw [if_pos h4] at hb
          exact absurd hb (by decide)
        · have h5 : ∀ p ∈ l, (p.id != o.id && badProc o p) = false := by simpa [List.any_eq_true] using h4
          have h6 := h5 p hp
          have h7 : (p.id != o.id) = true := by simpa using hne
          rw [h7] at h6
          simpa using h6
/-- what an operation's numbers may be -/
structure OpB (o : OpD) : Prop where
  id : 1 ≤ o.id ∧ o.id ≤ 1073741824
  proc : 0 ≤ o.proc ∧ o.proc ≤ 1023
  object : 0 ≤ o.object ∧ o.object ≤ 1023
  kind : 1 ≤ o.kind ∧ o.kind ≤ 6
  method : 1 ≤ o.method ∧ o.method ≤ 14
  arg : 0 ≤ o.arg ∧ o.arg ≤ 1073741824
  second : 0 ≤ o.second ∧ o.second ≤ 1073741824
  arg0 : argsN o.method ≤ 0 → o.arg = 0
  second0 : argsN o.method ≤ 1 → o.second = 0
  result : -1073741824 ≤ o.result ∧ o.result ≤ 1073741824
  invoke : 0 ≤ o.invoke ∧ o.invoke ≤ 1099511627776
  ret : o.done = true → o.invoke < o.ret ∧ o.ret ≤ 1099511627776
  none : o.done = false → o.result = 0 ∧ o.ret = 0
theorem row_args {r : Int × Int × Int × Int} (h : r ∈ rowsL) : (1 ≤ r.1 ∧ r.1 ≤ 6) ∧ (1 ≤ r.2.1 ∧ r.2.1 ≤ 14) ∧ r.2.2.1 = argsN r.2.1 ∧ (0 ≤ r.2.2.1 ∧ r.2.2.1 ≤ 2) := by
  simp only [rowsL, List.mem_cons, List.not_mem_nil, or_false] at h
  rcases h with rfl | rfl | rfl | rfl | rfl | rfl | rfl | rfl | rfl | rfl | rfl | rfl | rfl | rfl | rfl <;> decide
theorem ans_range {n how : Int} (h : ansB n how = true) : -1073741824 ≤ n ∧ n ≤ 1073741824 := by
  unfold ansB betw at h
  repeat' split at h
  all_goals (simp only [Bool.and_eq_true, Bool.or_eq_true, decide_eq_true_eq, beq_iff_eq] at h; omega)
theorem op_bounds {o : OpD} (h : chkL o = 0) : OpB o := by
  unfold chkL at h
  by_cases h1 : (!betw o.id 1 1073741824 || !betw o.proc 0 1023 || !betw o.object 0 1023) = true
  · rw [if_pos h1] at h
    exact absurd h (by decide)
  · rw [if_neg h1] at h
    cases hr : findRow o.kind o.method with
    | none => rw [hr] at h; exact absurd (show (33 : Int) = 0 from h) (by decide)
    | some r =>
      rw [hr] at h
      simp only at h
      have hm := List.mem_of_find?_eq_some hr
      have hp := List.find?_some hr
      simp only [Bool.and_eq_true, beq_iff_eq] at hp
      obtain ⟨k1, k2, k3, k4⟩ := row_args hm
      rw [hp.1] at k1
      rw [hp.2] at k2 k3
      unfold chkRow at h
      by_cases h2 : (!betw o.arg 0 (if 1 ≤ r.2.2.1 then 1073741824 else 0) || !betw o.second 0 (if 2 ≤ r.2.2.1 then 1073741824 else 0)) = true
      · rw [if_pos h2] at h; exact absurd h (by decide)
      rw [if_neg h2] at h
      by_cases h3 : (o.done && !ansB o.result r.2.2.2 || !o.done && o.result != 0) = true
      · rw [if_pos h3] at h; exact absurd h (by decide)
      rw [if_neg h3] at h
      by_cases h4 : (!betw o.invoke 0 1099511627776 || !o.done && o.ret != 0) = true
      · rw [if_pos h4] at h; exact absurd h (by decide)
      rw [if_neg h4] at h
      by_cases h5 : (o.done && (decide (o.ret ≤ o.invoke) || decide (1099511627776 < o.ret))) = true
      · rw [if_pos h5] at h; exact absurd h (by decide)
      clear h hr
      simp only [betw, Bool.or_eq_true, Bool.not_eq_true', Bool.and_eq_false_iff, decide_eq_false_iff_not, not_or, Bool.not_eq_false, not_and, Bool.and_eq_true, decide_eq_true_eq, Int.not_le, Int.not_lt] at h1 h2 h4
      rw [k3] at h2
      have a0 : argsN o.method ≤ 0 → o.arg = 0 := fun q => by rw [if_neg (by omega)] at h2; omega
      have s0 : argsN o.method ≤ 1 → o.second = 0 := fun q => by rw [if_neg (c := 2 ≤ argsN o.method) (by omega)] at h2; omega
      have ar : 0 ≤ o.arg ∧ o.arg ≤ 1073741824 := by
        by_cases q : 1 ≤ argsN o.method
        · rw [if_pos q] at h2; omega
        · rw [if_neg q] at h2; omega
      have sr : 0 ≤ o.second ∧ o.second ≤ 1073741824 := by
        by_cases q : 2 ≤ argsN o.method
        · rw [if_pos (c := 2 ≤ argsN o.method) q] at h2; omega
        · rw [if_neg (c := 2 ≤ argsN o.method) q] at h2; omega
      clear h2
      cases hd : o.done with
      | true =>
        rw [hd] at h3 h5
        simp at h3 h5
        have := ans_range h3
        exact ⟨by omega, by omega, by omega, k1, k2, ar, sr, a0, s0, this, by omega, (fun _ => by omega), (fun q => by rw [hd] at q; cases q)⟩
      | false =>
        rw [hd] at h3 h4
        simp at h3 h4
        exact ⟨by omega, by omega, by omega, k1, k2, ar, sr, a0, s0, by omega, by omega, (fun q => by rw [hd] at q; cases q), (fun _ => by omega)⟩
theorem evNum_inv {o : OpD} (h : OpB o) : EvNum (invOf o) := by
  obtain ⟨h1, h2, h3, _, _, h4, h5, _, _, _, h6, _, _⟩ := h
  unfold EvNum invOf
  simp only
  omega
theorem evNum_ans {o : OpD} (h : OpB o) (hd : o.done = true) : EvNum (ansOf o) := by
  obtain ⟨h1, h2, h3, _, _, h4, h5, _, _, h7, h6, h8, _⟩ := h
  have := h8 hd
  unfold EvNum ansOf
  simp only
  omega
theorem said_inv {o : OpD} (h : OpB o) : saidB (invOf o) = true := by
  have h1 := h.kind
  have h2 := h.method
  unfold saidB invOf
  simp only [Bool.not_eq_true', Bool.or_eq_false_iff, decide_eq_false_iff_not]
  omega
/-- an event of a list of operations -/
theorem mem_evsL {l : List OpD} {x : EvD} : x ∈ evsL l ↔ ∃ o ∈ l, x = invOf o ∨ (o.done = true ∧ x = ansOf o) := by
  unfold evsL
  rw [List.mem_flatMap]
  constructor
  · rintro ⟨o, ho, hx⟩
    refine ⟨o, ho, ?_⟩
    unfold evs1 at hx
    split at hx
    · rename_i hd
      simp only [List.mem_cons, List.not_mem_nil, or_false] at hx
      rcases hx with rfl | rfl
      · exact .inl rfl
      · exact .inr ⟨hd, rfl⟩
    · exact .inl (List.mem_singleton.1 hx)
  · rintro ⟨o, ho, hx⟩
    refine ⟨o, ho, ?_⟩
    unfold evs1
    rcases hx with rfl | ⟨hd, rfl⟩
    · split <;> simp
    · rw [if_pos hd]; simp
theorem refOfL_perm (l : List OpD) : (refOfL l).Perm (evsL l) := by
  obtain ⟨_, b, c⟩ := fold_putT (evsL l) 0 [] List.Pairwise.nil (fun y hy => by cases hy)
  have h := b.map (fun x : EvD × Nat => x.1)
  rw [c] at h
  simp only [List.map_nil, List.nil_append] at h
  have e : (((evsL l).zipIdx 0).map (fun x : EvD × Nat => x.1)) = evsL l := by
    generalize evsL l = es
    have : ∀ (es : List EvD) (n : Nat), ((es.zipIdx n).map (fun x : EvD × Nat => x.1)) = es := by
      intro es
      induction es with
      | nil => intro n; rfl
      | cons x r ih => intro n; rw [List.zipIdx_cons, List.map_cons, ih]
    exact this es 0
  rw [e] at h
  exact h
theorem hist_evs {l : List OpD} (h : HistOk l) : ∀ x ∈ refOfL l, EvNum x ∧ (x.answer = true ∨ saidB x = true) := fun x hx => by
  obtain ⟨o, ho, hx⟩ := mem_evsL.1 ((refOfL_perm l).mem_iff.1 hx)
  have hb := op_bounds (h.chk o ho)
  rcases hx with rfl | ⟨hd, rfl⟩
  · exact ⟨evNum_inv hb, .inr (said_inv hb)⟩
  · exact ⟨evNum_ans hb hd, .inl rfl⟩
theorem line_size {x : EvD} (h : EvNum x) : (lineL x).size ≤ 150 := by
  obtain ⟨h1, h2, h3, h4, h5, h6, h7⟩ := h
  have n1 := (num_size x.time h1.1 h1.2).2
  have n2 := (num_size x.proc h2.1 h2.2).2
  have n3 := (num_size x.id h3.1 h3.2).2
  have n4 := (num_size x.object h4.1 h4.2).2
  have n5 := (num_size x.arg h5.1 h5.2).2
  have n6 := (num_size x.second h6.1 h6.2).2
  have n7 := (num_size x.result h7.1 h7.2).2
  have k1 := kind_size x.kind.toNat
  have k2 := meth_size x.method.toNat
  have s1 : txSp.size = 1 := rfl
  have s2 : txAns.size = 8 := rfl
  have s3 : txInv.size = 8 := rfl
  unfold lineL
  split
  · unfold lineAns lineHead
    simp only [ByteArray.size_append]
    omega
  · split
    · unfold lineArgs
      split
      · unfold lineInv lineHead
        simp only [ByteArray.size_append]
        omega
      · split
        · unfold lineInv lineHead
          simp only [ByteArray.size_append]
          omega
        · unfold lineInv lineHead
          simp only [ByteArray.size_append]
          omega
    · show (0 : Nat) ≤ 150
      omega
theorem lines_len : ∀ (evs : List EvD), (∀ x ∈ evs, EvNum x) → (linesL evs).length ≤ 151 * evs.length
  | [], _ => by simp [linesL]
  | x :: r, h => by
    have h1 := line_size (h x (by simp))
    have h2 := lines_len r (fun y hy => h y (List.mem_cons_of_mem _ hy))
    unfold linesL at *
    rw [List.map_cons, List.flatten_cons, List.length_append, List.length_append, List.length_cons]
    have e : (lineL x).data.toList.length = (lineL x).size := Array.length_toList
    simp only [List.length_cons, List.length_nil]
    omega
end Go.Proofs.YtgpnockjonicpaaDoor
